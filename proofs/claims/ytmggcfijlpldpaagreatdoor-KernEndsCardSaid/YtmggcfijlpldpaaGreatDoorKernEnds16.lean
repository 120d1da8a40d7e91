/- Part of the proof of: The law KernEnds returns true for every input, and leaves its arguments as they were. -/
import Derived.Test.YtmggcfijlpldpaaGreatDoorKernEnds15
set_option linter.all false
set_option maxRecDepth 20000
namespace Go.Proofs.YtmggcfijlpldpaaGreatDoor
open Go Mb
namespace KK
def drain (c:Int):Nat→KK→KK
  | 0,k=>k
  | n + 1,k=>if 0 < mail k c then drain c n (post k c).2 else k
def turn1 (k:KK) (c:Int):KK × Bool:=if busy (drain c 5000 k) c = true then ((step (drain c 5000 k) c).2,true) else (drain c 5000 k,false)
def sweep:Nat→Int→KK→Bool→KK × Bool
  | 0,_,k,b=>(k,b)
  | n + 1,c,k,b=>sweep n (c + 1) (turn1 k c).1 ((turn1 k c).2 || b)
def anyBusy (k:KK):Nat→Int→Bool
  | 0,_=>false
  | n + 1,c=>busy k c || anyBusy k n (c + 1)
def settle (cores:Nat):Nat→KK→Bool × KK
  | 0,k=>(!anyBusy k cores 0,k)
  | n + 1,k=>if (sweep cores 0 k false).2 = false then (true,(sweep cores 0 k false).1) else settle cores n (sweep cores 0 k false).1
def lastA (core:Int) (es:List ce):Nat→fG × Bool
  | 0=>(⟨0,0⟩,false)
  | n + 1=>match es[n]? with
    | some e=>if e.fCore = core then (e.fAnswer,decide (e.fEnd > 0)) else lastA core es n
    | none=>(⟨0,0⟩,false)
def run (k:KK) (core env:Int) (c:dn):(fG × Bool) × KK :=
  if (begin_ k core env c).1 = false then ((⟨0,0⟩,false),(begin_ k core env c).2)
  else if (settle 8 1000 (begin_ k core env c).2).1 = false then ((⟨0,0⟩,false),(settle 8 1000 (begin_ k core env c).2).2)
  else (lastA core (settle 8 1000 (begin_ k core env c).2).2.events (settle 8 1000 (begin_ k core env c).2).2.events.length,(settle 8 1000 (begin_ k core env c).2).2)
theorem access_now (k:KK) (c:Int) (x:KC):(access k c x).2.now = k.now:=by unfold access; split; rfl; split <;> rfl
theorem work_now (k:KK) (c:Int) (x:KC):(work k c x).now = k.now:=by
  unfold work
  split
  · exact access_now k c x
  · split
    · rfl
    · split
      · rfl
      · split <;> rfl
theorem step_now {k:KK} (h0:0 ≤ k.now) (h:k.now < 2 ^ 38) (c:Int):k.now ≤ (step k c).2.now∧(step k c).2.now ≤ k.now + 1:=by
  have hw:=wrapN h0 (by omega)
  unfold step
  split
  · exact ⟨Int.le_refl _,by show k.now ≤ k.now + 1; omega⟩
  · split
    · exact ⟨Int.le_refl _,by show k.now ≤ k.now + 1; omega⟩
    · show _ ≤ (work _ _ _).now∧(work _ _ _).now ≤ _
      rw [work_now]
      simp only [tick,hw]; omega
theorem post_now {k:KK} (h0:0 ≤ k.now) (h:k.now < 2 ^ 38) (c:Int):k.now ≤ (post k c).2.now∧(post k c).2.now ≤ k.now + 1:=by
  have hw:=wrapN h0 (by omega)
  unfold post
  split
  · exact ⟨Int.le_refl _,by show k.now ≤ k.now + 1; omega⟩
  · split
    · exact ⟨Int.le_refl _,by show k.now ≤ k.now + 1; omega⟩
    · show _ ≤ (tick k).now∧(tick k).now ≤ _
      simp only [tick,hw]; omega
theorem begin_now {k:KK} (h0:0 ≤ k.now) (h:k.now < 2 ^ 38) (core env:Int) (c:dn):k.now ≤ (begin_ k core env c).2.now∧(begin_ k core env c).2.now ≤ k.now + 1:=by
  have hw:=wrapN h0 (by omega)
  unfold begin_
  split
  · exact ⟨Int.le_refl _,by show k.now ≤ k.now + 1; omega⟩
  · simp only [hw]; omega
end KK
section
variable {x:Ptr} {l:List As}
theorem kern_n0 {k:KK} {h:Hp} (s:aG (cM x k::l) h):0 ≤ k.now∧k.events.length ≤ k.now:=by
  obtain ⟨z,_,_,ok,_⟩:=se s
  exact ⟨ok.n0,ok.evn⟩
theorem settle_l3 {Rec:Bool × Int→Hp→Prop} {k:KK} {b:Bool} {c:Int} {h:Hp} (h0:0 ≤ c) (hc:c < 100) (hn:k.now + 5001 < 2 ^ 37) (st:aG (cM x k::l) h)
    (kk:∀ h',(KK.turn1 k c).1.now ≤ k.now + 5001→aG (cM x (KK.turn1 k c).1::l) h'→Rec ((KK.turn1 k c).2 || b,c + 1) h'):Lp (gm x Rec (b,c)) 0 h:=by
  have hj:∀ d h',KK.drain c 5000 k = d→d.now ≤ k.now + 5000→aG (cM x d::l) h'→eV x Rec (b,c) () h':=by
    intro d h' e hd s1
    unfold eV
    refine bM (i:=0) (ol x d c) rfl s1 fun r h2 hr s2=>?_
    refine bM (i:=0) (ol x d c) rfl s2 fun r' h3 hr' s3=>?_
    subst hr; subst hr'
    have hw:IntKind.i64.wrap (c + 1) = c + 1:=bP (by omega) (by omega)
    simp only [hw]
    refine aX (fun k2=>?_) (fun k2=>?_)
    · refine bM (i:=0) (sp_kern_Step x d c (by omega)) rfl s3 fun r h4 hr s4=>?_
      have e2:KK.turn1 k c = ((KK.step d c).2,true):=by unfold KK.turn1; rw [e,if_pos k2]
      have n1:=kern_n0 s3
      have n2:=KK.step_now n1.1 (by omega) c
      rw [e2] at kk
      rw [k2]
      exact kk h4 (by show (KK.step d c).2.now ≤ _; omega) s4
    · have e2:KK.turn1 k c = (d,false):=by unfold KK.turn1; rw [e,if_neg (by rw [k2]; exact Bool.false_ne_true)]
      rw [e2] at kk
      rw [k2]
      exact kk h3 (by show d.now ≤ _; omega) s3
  refine Lp.intro (fun (m:Int) h=>∃ (n:Nat) (d:KK),m = 5000 - n∧n ≤ 5000∧KK.drain c n d = KK.drain c 5000 k∧d.now ≤ k.now + (5000 - n)∧aG (cM x d::l) h) (fun m _=>(5000 - m).toNat) ⟨5000,k,rfl,Nat.le_refl _,rfl,by omega,st⟩ ?_
  rintro m h1 ⟨n,d,rfl,hm,e,hd,s1⟩
  unfold gm
  refine aX (fun k1=>?_) (fun k1=>?_)
  · have hlt:0 < n:=by have:=of_decide_eq_true k1; omega
    obtain ⟨n,rfl⟩:∃ j,n = j + 1:=⟨n - 1,by omega⟩
    refine bM (i:=0) (sp_kern_Mail x d c) rfl s1 fun r h2 hr s2=>?_
    subst hr
    refine aX (fun k2=>?_) (fun k2=>?_)
    · have k2':0 < KK.mail d c:=of_decide_eq_true k2
      refine bM (i:=0) (sp_kern_Post x d c (by omega)) rfl s2 fun r h3 hr s3=>?_
      have n1:=kern_n0 s2
      have n2:=KK.post_now n1.1 (by omega) c
      have hw:IntKind.i64.wrap ((5000:Int) - ((n + 1:Nat):Int) + 1) = 5000 - (n:Int):=by rw [bP (by omega) (by omega)]; omega
      rw [hw]
      refine ⟨⟨n,_,rfl,by omega,?_,by omega,s3⟩,by show (5000 - (5000 - (n:Int))).toNat < (5000 - (5000 - ((n + 1:Nat):Int))).toNat; omega⟩
      rw [← e]
      exact (if_pos k2').symm
    · have k2':¬ 0 < KK.mail d c:=of_decide_eq_false k2
      exact hj d h2 (by rw [← e]; exact if_neg k2') (by omega) s2
  · have hz:n = 0:=by have:=of_decide_eq_false k1; omega
    subst hz
    exact hj d h1 e.symm (by omega) s1
theorem settle_l2 {Rec2:Int→Hp→Prop} {K:Bool→Hp→Prop} {k:KK} {m:Int} {cores:Nat} {h:Hp} (hc:cores ≤ 8) (hn:k.now + cores * 5001 < 2 ^ 37) (st:aG (cM x k::l) h)
    (kt:∀ h',(KK.sweep cores 0 k false).2 = false→(KK.sweep cores 0 k false).1.now ≤ k.now + cores * 5001→aG (cM x (KK.sweep cores 0 k false).1::l) h'→K true h')
    (kf:∀ h',(KK.sweep cores 0 k false).2 = true→(KK.sweep cores 0 k false).1.now ≤ k.now + cores * 5001→aG (cM x (KK.sweep cores 0 k false).1::l) h'→Rec2 (IntKind.i64.wrap (m + 1)) h') :
    Lp (gn x cores K Rec2 m) (false,0) h:=by
  refine Lp.intro (fun (s:Bool × Int) h=>∃ (n:Nat) (d:KK),s.2 = (cores:Int) - n∧n ≤ cores∧KK.sweep n s.2 d s.1 = KK.sweep cores 0 k false∧d.now ≤ k.now + (cores - n) * 5001∧aG (cM x d::l) h) (fun s _=>cores - s.2.toNat)
    ⟨cores,k,by simp,Nat.le_refl _,rfl,by simp,st⟩ ?_
  rintro ⟨b,c⟩ h1 ⟨n,d,e0,hm,e,hd,s1⟩
  simp only at e0 e
  subst e0
  unfold gn
  refine aX (fun k1=>?_) (fun k1=>?_)
  · have hlt:0 < n:=by have:=of_decide_eq_true k1; simp only at this; omega
    obtain ⟨n,rfl⟩:∃ j,n = j + 1:=⟨n - 1,by omega⟩
    have hq:(((cores:Int) - ((n + 1:Nat):Int)) * 5001) + 5001 = ((cores:Int) - n) * 5001:=by omega
    have hq2:((cores:Int) - n) * 5001 ≤ cores * 5001:=by omega
    refine settle_l3 (by omega) (by omega) (by omega) s1 fun h' hnow s2=>?_
    have hw:(cores:Int) - ((n + 1:Nat):Int) + 1 = (cores:Int) - n:=by omega
    refine ⟨⟨n,_,hw,by omega,?_,by omega,s2⟩,?_⟩
    · rw [← e]; rfl
    · show cores - ((cores:Int) - ((n + 1:Nat):Int) + 1).toNat < cores - ((cores:Int) - ((n + 1:Nat):Int)).toNat
      omega
  · have hz:n = 0:=by have:=of_decide_eq_false k1; simp only at this; omega
    subst hz
    have e':(d,b) = KK.sweep cores 0 k false:=e
    refine aX (fun k2=>?_) (fun k2=>?_)
    · have hb:b = false:=by simpa using k2
      rw [← e'] at kt
      exact kt h1 hb (by show d.now ≤ _; simpa using hd) s1
    · have hb:b = true:=by simpa using k2
      rw [← e'] at kf
      exact kf h1 hb (by show d.now ≤ _; simpa using hd) s1
theorem settle_l4 {K:Bool→Hp→Prop} {k:KK} {cores:Nat} {h:Hp} (hc:cores ≤ 8) (st:aG (cM x k::l) h)
    (kk:∀ h',aG (cM x k::l) h'→K (!KK.anyBusy k cores 0) h'):Lp (gl x cores K) 0 h:=by
  refine Lp.intro (fun (c:Int) h=>∃ n:Nat,c = (cores:Int) - n∧n ≤ cores∧KK.anyBusy k n c = KK.anyBusy k cores 0∧aG (cM x k::l) h) (fun s _=>cores - s.toNat) ⟨cores,by simp,Nat.le_refl _,rfl,st⟩ ?_
  rintro c h1 ⟨n,rfl,hm,e,s1⟩
  unfold gl
  refine aX (fun k1=>?_) (fun k1=>?_)
  · have hlt:0 < n:=by have:=of_decide_eq_true k1; omega
    obtain ⟨n,rfl⟩:∃ j,n = j + 1:=⟨n - 1,by omega⟩
    refine bM (i:=0) (ol x k _) rfl s1 fun r h2 hr s2=>?_
    subst hr
    have e':(KK.busy k ((cores:Int) - ((n + 1:Nat):Int)) || KK.anyBusy k n ((cores:Int) - ((n + 1:Nat):Int) + 1)) = KK.anyBusy k cores 0:=e
    refine aX (fun k2=>?_) (fun k2=>?_)
    · rw [k2,Bool.true_or] at e'
      rw [← e'] at kk
      exact kk h2 s2
    · rw [k2,Bool.false_or] at e'
      have hw:IntKind.i64.wrap ((cores:Int) - ((n + 1:Nat):Int) + 1) = (cores:Int) - ((n + 1:Nat):Int) + 1:=bP (by omega) (by omega)
      rw [hw]
      refine ⟨⟨n,by omega,by omega,e',s2⟩,by omega⟩
  · have hz:n = 0:=by have:=of_decide_eq_false k1; omega
    subst hz
    have e':false = KK.anyBusy k cores 0:=e
    rw [← e'] at kk
    exact kk h1 s1
end
theorem sp_Settle (x:Ptr) (k:KK) (cores most:Nat) (hc:cores ≤ 8) (hm:most ≤ 1000) (hn:k.now < 2 ^ 36):Sp Tryz.prog ft [pv x,.int .i64 cores,.int .i64 most] aA [cM x k]
    (fun r=>pa_ (r = (KK.settle cores most k).1∧(KK.settle cores most k).2.now ≤ k.now + most * 40008) [cM x (KK.settle cores most k).2]):=by
  intro h st
  refine uM _ _ _ ?_
  unfold nI
  refine Lp.intro (fun (m:Int) h=>∃ (n:Nat) (d:KK),m = (most:Int) - n∧n ≤ most∧KK.settle cores n d = KK.settle cores most k∧d.now ≤ k.now + (most - n) * 40008∧aG [cM x d] h) (fun m _=>most - m.toNat)
    ⟨most,k,by simp,Nat.le_refl _,rfl,by simp,st⟩ ?_
  rintro m h1 ⟨n,d,rfl,hnm,e,hd,s1⟩
  unfold jx
  have hq:((most:Int) - n) * 40008 ≤ 1000 * 40008:=by omega
  have hq2:(cores:Int) * 5001 ≤ 40008:=by omega
  refine aX (fun k1=>?_) (fun k1=>?_)
  · have hlt:0 < n:=by have:=of_decide_eq_true k1; omega
    obtain ⟨n,rfl⟩:∃ j,n = j + 1:=⟨n - 1,by omega⟩
    have e':(if (KK.sweep cores 0 d false).2 = false then (true,(KK.sweep cores 0 d false).1) else KK.settle cores n (KK.sweep cores 0 d false).1) = KK.settle cores most k:=e
    refine settle_l2 hc (by omega) s1 (fun h' hb hnow s2=>?_) (fun h' hb hnow s2=>?_)
    · rw [if_pos hb] at e'
      rw [← e']
      exact aW ⟨rfl,by show (KK.sweep cores 0 d false).1.now ≤ _; omega⟩ s2
    · rw [if_neg (by rw [hb]; decide)] at e'
      have hw:IntKind.i64.wrap ((most:Int) - ((n + 1:Nat):Int) + 1) = (most:Int) - n:=by rw [bP (by omega) (by omega)]; omega
      rw [hw]
      exact ⟨⟨n,_,rfl,by omega,e',by omega,s2⟩,by omega⟩
  · have hz:n = 0:=by have:=of_decide_eq_false k1; omega
    subst hz
    have e':(!KK.anyBusy d cores 0,d) = KK.settle cores most k:=e
    refine settle_l4 hc s1 fun h' s2=>?_
    rw [← e']
    exact aW ⟨rfl,by show d.now ≤ _; simpa using hd⟩ s2
theorem run_yes {k:KK} {core env:Int} {c:dn} {d e:KK} (h1:(KK.begin_ k core env c) = (true,d)) (h2:KK.settle 8 1000 d = (true,e)):KK.run k core env c = (KK.lastA core e.events e.events.length,e):=by
  unfold KK.run
  rw [h1]
  dsimp only
  rw [if_neg (by decide),h2]
  dsimp only
  rw [if_neg (by decide)]
theorem run_l1 {s:Sl} {es:List ce} {l:List As} {core:Int} {K:fG × Bool→Hp→Prop} {h:Hp} (hb:es.length < 2 ^ 38) (st:aG (vE s es::l) h)
    (kk:∀ h',aG (vE s es::l) h'→K (KK.lastA core es es.length) h'):Lp (fZ core K s) (IntKind.i64.wrap ((s.len:Int) - 1),⟨0,0⟩) h:=by
  have hl:=(cf (j:=0) st rfl).1
  have hw0:IntKind.i64.wrap ((s.len:Int) - 1) = (es.length:Int) - 1:=by rw [hl,bP (by omega) (by omega)]
  rw [hw0]
  refine Lp.intro (fun (z:Int × fG) h=>∃ n:Nat,z = ((n:Int) - 1,⟨0,0⟩)∧n ≤ es.length∧KK.lastA core es n = KK.lastA core es es.length∧aG (vE s es::l) h) (fun z _=>(z.1 + 1).toNat) ⟨_,rfl,Nat.le_refl _,rfl,st⟩ ?_
  rintro _ h1 ⟨n,rfl,hn,e,s1⟩
  unfold fZ
  refine aX (fun k1=>?_) (fun k1=>?_)
  · have hlt:0 < n:=by have:=of_decide_eq_true k1; simp only at this; omega
    obtain ⟨n,rfl⟩:∃ j,n = j + 1:=⟨n - 1,by omega⟩
    have hn':n < es.length:=by omega
    have hi:((n + 1:Nat):Int) - 1 = (n:Int):=by omega
    simp only [hi]
    have e':(match es[n]? with
      | some e=>if e.fCore = core then (e.fAnswer,decide (e.fEnd > 0)) else KK.lastA core es n
      | none=>(⟨0,0⟩,false)) = KK.lastA core es es.length:=e
    rw [aE hn'] at e'
    simp only at e'
    refine dw s1 (j:=0) rfl (by omega) (by show (n:Int) < _; omega) fun q hq=>?_
    have lk:∀ {σ:Type} {enc:σ→List Value} {K:σ→Hp→Prop} (y:σ) (o:Nat),(∀ i v,(enc y)[i]? = some v→(es[n].C)[o + i]? = some v)→K y h1→ld (q.1,q.2 + Int.toNat (n:Int) * 16 + o) enc K h1:=by
      intro σ enc K y o he k
      exact eo (j:=0) (i:=n) (k:=o) y mC s1 rfl hq (by simp) (aE hn') he k
    refine lk es[n].fCore 0 (fun i v hv=>?_) ?_
    · rcases i with _ | i <;> first | exact hv | simp [cI] at hv
    refine aX (fun k2=>?_) (fun k2=>?_)
    · have k2':es[n].fCore = core:=by simpa using k2
      rw [if_pos k2'] at e'
      have hA:∀ i v,(ac.C es[n].fAnswer)[i]? = some v→(es[n].C)[10 + i]? = some v:=by
        intro i v hv
        rcases i with _ | _ | i <;> first | exact hv | simp [ac.C] at hv
      have hE:∀ i v,((cI .i64) es[n].fEnd)[i]? = some v→(es[n].C)[9 + i]? = some v:=by
        intro i v hv
        rcases i with _ | i <;> first | exact hv | simp [cI] at hv
      refine ⟨lk _ 10 hA (lk _ 9 hE ?_),lk _ 9 hE (lk _ 10 hA ?_)⟩
      · rw [e']; exact kk h1 s1
      · rw [e']; exact kk h1 s1
    · have k2':¬ es[n].fCore = core:=by simpa using k2
      rw [if_neg k2'] at e'
      rw [bP (by omega) (by omega)]
      exact ⟨⟨n,rfl,by omega,e',s1⟩,by show ((n:Int) - 1 + 1).toNat < ((n:Int) + 1).toNat; omega⟩
  · have hz:n = 0:=by have:=of_decide_eq_false k1; simp only at this; omega
    subst hz
    have e':((⟨0,0⟩,false):fG × Bool) = KK.lastA core es es.length:=e
    rw [← e'] at kk
    exact kk h1 s1
theorem run_no {k:KK} {core env:Int} {c:dn} {d e:KK} (h1:(KK.begin_ k core env c) = (true,d)) (h2:KK.settle 8 1000 d = (false,e)):KK.run k core env c = ((⟨0,0⟩,false),e):=by
  unfold KK.run
  rw [h1]
  dsimp only
  rw [if_neg (by decide),h2]
  dsimp only
  rw [if_pos rfl]
theorem run_tail (x:Ptr) (k:KK) (core env:Int) (c:dn) (d:KK) (h1:KK.begin_ k core env c = (true,d)) (hn:d.now ≤ k.now + 1) (hk:k.now < 2 ^ 35) {h:Hp} (s1:aG [cM x d] h) :
    (cl Tryz.prog ft [(pv x),(.int .i64 8),(.int .i64 1000)] aA fun r20 =>
      br (!r20) ((fun r h'=>pa_ (r = (KK.run k core env c).1∧(KK.run k core env c).2.now ≤ k.now + 40008001) [cM x (KK.run k core env c).2] h') (⟨0,0⟩,false)) (
      cl Tryz.prog fO [(pv x)] eA fun r24 =>
      Lp (fZ core (fun r h'=>pa_ (r = (KK.run k core env c).1∧(KK.run k core env c).2.now ≤ k.now + 40008001) [cM x (KK.run k core env c).2] h') r24) ((IntKind.i64.wrap ((r24.len:Int) - 1)),(⟨0,0⟩:ac)))) h:=by
  have c8:=sp_Settle x d 8 1000 (Nat.le_refl _) (Nat.le_refl _) (by omega)
  generalize hz:KK.settle 8 1000 d = z at c8
  obtain ⟨b,e⟩:=z
  refine bM (i:=0) c8 rfl s1 fun r h2 hr s2=>?_
  obtain ⟨hr,hs⟩:=hr
  have hs':e.now ≤ d.now + 40008000:=hs
  have n2:=kern_n0 s2
  have hr':r = b:=hr
  rw [hr']
  cases b
  · rw [run_no h1 hz]
    exact dU rfl (aW ⟨rfl,by show e.now ≤ _; omega⟩ s2)
  · refine dB rfl ?_
    refine xw (i:=0) (sK x _ (by show e.now < _; omega)) rfl s2 fun s h3 s3=>?_
    refine run_l1 (by show e.events.length < _; have:(e.events.length:Int) ≤ e.now:=n2.2; omega) s3 fun h4 s4=>?_
    rw [run_yes h1 hz]
    exact aW ⟨rfl,by show e.now ≤ _; omega⟩ (cc (l:=[_]) s4)
theorem sp_Run (x:Ptr) (k:KK) (core env:Int) (c:dn) (hn:k.now < 2 ^ 35):Sp Tryz.prog eH [pv x,.int .i64 core,.int .i64 env,.agg c.C.toArray] bh [cM x k]
    (fun r=>pa_ (r = (KK.run k core env c).1∧(KK.run k core env c).2.now ≤ k.now + 40008001) [cM x (KK.run k core env c).2]):=by
  intro h st
  have n0:=kern_n0 st
  have nb:=KK.begin_now n0.1 (by omega) core env c
  refine sim_messuagelaw16_Run _ _ _ _ ?_
  unfold qI
  refine bM (i:=0) (sp_kern_Begin x k core env c (by omega)) rfl st fun r h1 hr s1=>?_
  subst hr
  refine aX (fun k1=>?_) (fun k1=>?_)
  · have k1':(KK.begin_ k core env c).1 = false:=by simpa using k1
    have e:KK.run k core env c = ((⟨0,0⟩,false),(KK.begin_ k core env c).2):=if_pos k1'
    rw [e]
    exact aW ⟨rfl,by show (KK.begin_ k core env c).2.now ≤ _; omega⟩ s1
  · have k1':(KK.begin_ k core env c).1 = true:=by simpa using k1
    exact run_tail x k core env c (KK.begin_ k core env c).2 (by rw [← k1']) (by omega) hn s1
end Go.Proofs.YtmggcfijlpldpaaGreatDoor
namespace Go.Proofs.YtmggcfijlpldpaaGreatDoor
open Go Mb
structure IE (k:KK):Prop where
  inv:fj k
  ev:pJ k
theorem ie_new {s:io} (h:PK.sized s = true):IE (KK.new s):=⟨inv_new h,evinv_new s⟩
theorem IE.begin {k:KK} (A:IE k) (hn:k.now < 2 ^ 40) (core env:Int) {c:dn} (cw:Cw c):IE (KK.begin_ k core env c).2:=⟨A.inv.begin hn core env cw,A.ev.begin A.inv.ok hn core env c⟩
theorem IE.evict {k:KK} (A:IE k) (hn:k.now < 2 ^ 40) (c s w:Int):IE (KK.evict k c s w).2:=by
  have hI:=A.inv.evict hn c s w
  have hw:=wrapN A.inv.ok.n0 hn
  have he:(KK.evict k c s w).2.events = k.events∧(KK.evict k c s w).2.p = k.p∧(KK.evict k c s w).2.calls = k.calls∧k.now ≤ (KK.evict k c s w).2.now:=by
    unfold KK.evict
    split
    · exact ⟨rfl,rfl,rfl,Int.le_refl _⟩
    · split
      · exact ⟨rfl,rfl,rfl,Int.le_refl _⟩
      · exact ⟨rfl,rfl,rfl,by show k.now ≤ IntKind.i64.wrap (k.now + 1); omega⟩
  exact ⟨hI,A.ev.same he.1 (by rw [he.2.1]) he.2.2.2 (fun c x h=>⟨x,by rw [← he.2.2.1]; exact h,rfl,rfl,rfl⟩) (fun c x h=>⟨x,by rw [he.2.2.1]; exact h,rfl⟩)⟩
theorem IE.post {k:KK} (A:IE k) (hn:k.now < 2 ^ 40) (c:Int):IE (KK.post k c).2:=by
  have hI:=A.inv.post hn c
  have hw:=wrapN A.inv.ok.n0 hn
  have he:(KK.post k c).2.events = k.events∧(KK.post k c).2.p = k.p∧(KK.post k c).2.calls = k.calls∧k.now ≤ (KK.post k c).2.now:=by
    unfold KK.post
    split
    · exact ⟨rfl,rfl,rfl,Int.le_refl _⟩
    · split
      · exact ⟨rfl,rfl,rfl,Int.le_refl _⟩
      · exact ⟨rfl,rfl,rfl,by show k.now ≤ IntKind.i64.wrap (k.now + 1); omega⟩
  exact ⟨hI,A.ev.same he.1 (by rw [he.2.1]) he.2.2.2 (fun c x h=>⟨x,by rw [← he.2.2.1]; exact h,rfl,rfl,rfl⟩) (fun c x h=>⟨x,by rw [he.2.2.1]; exact h,rfl⟩)⟩
theorem do_wait {k:PK} {e:Int} {c:dn} (h:(PK.do_ k e c).1.2 = false):(PK.do_ k e c).2 = k:=by
  unfold PK.do_ at h ⊢
  split
  · rfl
  · rename_i h1
    rw [if_neg h1] at h
    split
    · rfl
    · rename_i h2
      rw [if_neg h2] at h
      unfold PK.does PK.errs at h ⊢
      repeat' split
      all_goals first | rfl | (exfalso; simp_all; done)
theorem access_keep (k:KK) (c:Int) (x:KC):(KK.access k c x).2.events = k.events∧(KK.access k c x).2.now = k.now∧(KK.access k c x).2.p.s = k.p.s∧(KK.access k c x).2.calls = k.calls∧(KK.access k c x).2.epochs = k.epochs:=by
  unfold KK.access
  split
  · exact ⟨rfl,rfl,rfl,rfl,rfl⟩
  · split
    · exact ⟨rfl,rfl,rfl,rfl,rfl⟩
    · exact ⟨rfl,rfl,touch_s _ _ _,rfl,rfl⟩
theorem work_ev {k:KK} (E:pJ k) (hlate:∀ (i:Nat) e,k.events[i]? = some e→e.fBegin < k.now∧e.fEffect < k.now) {c:Nat} {x:KC} (hc:c < k.calls.length) (hcx:k.calls[c]? = some (some x)):pJ (KK.work k c x):=by
  unfold KK.work
  by_cases hu:cK (aB x.fc).1 = true
  · rw [if_pos hu]
    obtain ⟨h1,h2,h3,h4,_⟩:=access_keep k c x
    have E2:pJ (KK.access k c x).2:=E.same h1 h3 (by rw [h2]; exact Int.le_refl _) (fun d y h=>⟨y,by rw [← h4]; exact h,rfl,rfl,rfl⟩) (fun d y h=>⟨y,by rw [h4]; exact h,rfl⟩)
    exact E2.ends (by rw [h4]; exact hcx) (by rw [h1,h2]; exact hlate) _ _
  · rw [if_neg hu]
    split
    · refine E.same rfl rfl (Int.le_refl _) (fun d y h=>?_) (fun d y h=>?_)
      · simp only [KK.send,KK.clean,KK.tell,Int.toNat_natCast,List.set_set] at h
        rw [List.getElem?_set] at h
        split at h
        · rename_i e
          refine ⟨x,e ▸ hcx,?_⟩
          simp only [hc,if_true,Option.some.injEq] at h
          rw [← h]; exact ⟨rfl,rfl,rfl⟩
        · exact ⟨y,h,rfl,rfl,rfl⟩
      · simp only [KK.send,KK.clean,KK.tell,Int.toNat_natCast,List.set_set]
        rw [List.getElem?_set]
        by_cases e:c = d
        · subst e
          rw [hcx] at h
          cases h
          rw [if_pos rfl,if_pos hc]
          exact ⟨_,rfl,rfl⟩
        · rw [if_neg e]; exact ⟨y,h,rfl⟩
    · split
      · exact E
      · split
        · have E2:pJ { k with p:=(PK.do_ k.p x.fenv x.fc).2 }:=E.same rfl (do_s _ _ _) (Int.le_refl _) (fun d y h=>⟨y,h,rfl,rfl,rfl⟩) (fun d y h=>⟨y,h,rfl⟩)
          exact E2.ends hcx hlate _ _
        · rename_i hdone
          rw [do_wait (by simpa using hdone)]
          exact E
theorem tick_now {k:KK} (ok:KK.Ok k) (hn:k.now < 2 ^ 40):(KK.tick k).now = k.now + 1:=wrapN ok.n0 hn
theorem tick_ev {k:KK} (ok:KK.Ok k) (E:pJ k) (hn:k.now < 2 ^ 40):pJ (KK.tick k):=E.same rfl rfl (by rw [tick_now ok hn]; omega) (fun c x h=>⟨x,h,rfl,rfl,rfl⟩) (fun c x h=>⟨x,h,rfl⟩)
theorem tick_late {k:KK} (ok:KK.Ok k) (E:pJ k) (hn:k.now < 2 ^ 40):∀ (i:Nat) e,(KK.tick k).events[i]? = some e→e.fBegin < (KK.tick k).now∧e.fEffect < (KK.tick k).now:=fun i e h=>by
  have o:=E.one i e h
  rw [tick_now ok hn]
  have h1:=o.b1
  have h0:=o.b0
  rcases o.st with h2 | h2
  · exact ⟨by omega,by rw [h2.1]; omega⟩
  · exact ⟨by omega,by omega⟩
theorem IE.step {k:KK} (A:IE k) (hn:k.now < 2 ^ 40) (c:Int):IE (KK.step k c).2:=by
  refine ⟨A.inv.step hn c,?_⟩
  unfold KK.step
  split
  · exact A.ev
  · rename_i hb
    obtain ⟨hi,x,hx⟩:=busy_is (by simpa using hb)
    rw [hx]
    obtain ⟨n,rfl,hlt⟩:=nZ hi
    exact work_ev (tick_ev A.inv.ok A.ev hn) (tick_late A.inv.ok A.ev hn) (by show n < k.calls.length; omega) (kcall_nat hx)
end Go.Proofs.YtmggcfijlpldpaaGreatDoor
namespace Go.Proofs.YtmggcfijlpldpaaGreatDoor
open Go Mb
theorem do_done {k:PK} {e:Int} {c:dn} (cw:Cw c) (h9:c.e0 ≠ 9) (hn:1 ≤ k.s.fEnvs∧k.s.fEnvs ≤ 4):(PK.do_ k e c).1.2 = true:=by
  by_cases hb:PK.off k e = true∨Word.check c k.s.fEnvs ≠ 0
  · exact (PK.do_bad hb).2.1
  · simp only [not_or,Bool.not_eq_true,Decidable.not_not] at hb
    have w:=well_of hn.1 hn.2 hb.2
    rw [PK.do_good hb.1 hb.2]
    unfold PK.does PK.errs
    rw [PK.w0 w]
    repeat' split
    all_goals first | rfl | (exfalso; omega)
theorem waitsFrom_none {n o:Int}:∀ {l:List Int} {i:Int},(∀ (j:Nat) (a:Int),l[j]? = some a→o ≠ i + j→n ≤ a)→Epochs.waitsFrom n o l i = []
  | [],_,_=>rfl
  | b::l,i,h=>by
    rw [Epochs.waitsFrom,if_neg]
    · exact waitsFrom_none fun j a hj ho=>h (j + 1) a (by simpa using hj) (by omega)
    · rintro ⟨h1,h2⟩
      have:=h 0 b rfl (by simpa using h2)
      omega
theorem done_of {k:KK} {n:Int} {d:Nat} (h1:1 ≤ n) (h2:n ≤ k.epochs.1.length) (ho:k.epochs.1[(n - 1).toNat]? = some (d:Int)) (h:∀ c,c < k.epochs.2.length→c ≠ d→n ≤ heard k c):Epochs.done k.epochs n = true:=by
  unfold Epochs.done
  simp only [Bool.and_eq_true,decide_eq_true_eq]
  refine ⟨⟨h1,h2⟩,?_⟩
  unfold Epochs.waits
  rw [if_neg (by unfold Epochs.now; omega)]
  have hov:k.epochs.1.getD (n - 1).toNat 0 = d:=by rw [List.getD_eq_getElem?_getD,ho]; rfl
  rw [hov]
  refine waitsFrom_none fun j a hj hne=>?_
  have hlt:=(List.getElem?_eq_some_iff.1 hj).1
  have:=h j hlt (by omega)
  unfold heard at this
  rw [List.getD_eq_getElem?_getD,hj] at this
  exact this
structure Closed (P:KK→Prop):Prop where
  inv:∀ {k:KK},P k→fj k
  post:∀ {k:KK},P k→k.now < 2 ^ 40→∀ c:Int,P (KK.post k c).2
  step:∀ {k:KK},P k→k.now < 2 ^ 40→∀ c:Int,P (KK.step k c).2
variable {P:KK→Prop}
structure Posted (k k':KK) (c:Nat):Prop where
  calls:k'.calls = k.calls
  own:k'.epochs.1 = k.epochs.1
  p:k'.p = k.p
  events:k'.events = k.events
  up:∀ d,heard k d ≤ heard k' d
  now:k'.now = k.now + 1
  box:Mail.box k'.boxes c = (Mail.box k.boxes c).drop 1
theorem post_posted {k:KK} (A:fj k) (hn:k.now < 2 ^ 40) {c:Nat} (h:0 < KK.mail k c):Posted k (KK.post k c).2 c:=by
  have hi:KK.is k c = true:=by
    unfold KK.mail at h; split at h
    · assumption
    · omega
  unfold KK.mail at h
  rw [if_pos hi] at h
  have hw:Mail.waits k.boxes c ≠ 0:=by omega
  obtain ⟨n,e1,hlt⟩:=nZ hi
  have hlt:c < k.calls.length:=by omega
  have hbl:k.boxes.length = k.calls.length:=by have:=A.ok.bl; have:=A.ok.cl; omega
  have hel:k.epochs.2.length = k.calls.length:=by have:=A.ok.el; have:=A.ok.cl; omega
  have htk:Mail.take k.boxes c = (((Mail.box k.boxes c).getD 0 0,true),k.boxes.set c ((Mail.box k.boxes c).drop 1)):=by
    unfold Mail.take; rw [if_neg hw]; simp
  have ht:=tick_now A.ok hn
  unfold KK.post
  rw [if_neg (by rw [hi]; simp),htk,if_neg (by simp)]
  refine ⟨rfl,?_,rfl,rfl,fun d=>?_,ht,?_⟩
  · show (Epochs.ack k.epochs c _).2.1 = _
    unfold Epochs.ack; split <;> rfl
  · show heard k d ≤ (Epochs.ack k.epochs c ((Mail.box k.boxes c).getD 0 0)).2.2.getD d 0
    unfold Epochs.ack
    split
    · show heard k d ≤ (k.epochs.2.set (c:Int).toNat (mx (k.epochs.2.getD (c:Int).toNat 0) _)).getD d 0
      simp only [Int.toNat_natCast,List.getD_eq_getElem?_getD,List.getElem?_set]
      by_cases e:c = d
      · subst e
        rw [if_pos rfl,if_pos (by omega)]
        unfold heard
        rw [List.getD_eq_getElem?_getD]
        show _ ≤ mx _ _
        unfold mx; split <;> omega
      · rw [if_neg e]
        unfold heard; rw [List.getD_eq_getElem?_getD]; exact Int.le_refl _
    · exact Int.le_refl _
  · show Mail.box (k.boxes.set c ((Mail.box k.boxes c).drop 1)) c = _
    simp only [Mail.box,Int.toNat_natCast,List.getD_eq_getElem?_getD,List.getElem?_set]
    rw [if_pos trivial,if_pos (by omega)]; rfl
structure Drained (P:KK→Prop) (k k':KK) (c n:Nat):Prop where
  all:P k'
  calls:k'.calls = k.calls
  own:k'.epochs.1 = k.epochs.1
  p:k'.p = k.p
  events:k'.events = k.events
  up:∀ d,heard k d ≤ heard k' d
  lo:k.now ≤ k'.now
  now:k'.now ≤ k.now + n
  box:Mail.box k'.boxes c = []
theorem mail_len {k:KK} {c:Nat} (ok:KK.Ok k) (hc:c < k.calls.length):KK.mail k c = ((Mail.box k.boxes c).length:Int):=by
  have hbl:k.boxes.length = k.calls.length:=by have:=ok.bl; have:=ok.cl; omega
  have hi:KK.is k c = true:=by unfold KK.is; exact decide_eq_true (by omega)
  unfold KK.mail Mail.waits
  rw [if_pos hi,if_pos (by unfold Mail.has; exact decide_eq_true (by omega))]
theorem drain_drained (hp:Closed P) {c:Nat}:∀ (n:Nat) {k:KK},P k→c < k.calls.length→(Mail.box k.boxes c).length ≤ n→k.now + n < 2 ^ 40→Drained P k (KK.drain c n k) c n
  | 0,k,A,hc,hl,hn=>⟨A,rfl,rfl,rfl,rfl,fun _=>Int.le_refl _,Int.le_refl _,by show k.now ≤ k.now + 0; omega,List.eq_nil_of_length_eq_zero (by show (Mail.box k.boxes c).length = 0; omega)⟩
  | n + 1,k,A,hc,hl,hn=>by
    rw [KK.drain]
    by_cases hm:0 < KK.mail k c
    · rw [if_pos hm]
      have Q:=post_posted (hp.inv A) (by omega) hm
      have A':=hp.post A (by omega) c
      have D:=drain_drained hp n A' (by rw [Q.calls]; exact hc) (by rw [Q.box,List.length_drop]; omega) (by rw [Q.now]; omega)
      have h1:=Q.now
      have h2:=D.now
      have h3:=D.lo
      exact ⟨D.all,D.calls.trans Q.calls,D.own.trans Q.own,D.p.trans Q.p,D.events.trans Q.events,fun d=>Int.le_trans (Q.up d) (D.up d),by omega,by omega,D.box⟩
    · rw [if_neg hm]
      rw [mail_len (hp.inv A).ok hc] at hm
      exact ⟨A,rfl,rfl,rfl,rfl,fun _=>Int.le_refl _,Int.le_refl _,by omega,List.eq_nil_of_length_eq_zero (by omega)⟩
structure Stepped (k k':KK) (c:Nat):Prop where
  other:∀ d,d ≠ c→k'.calls[d]? = k.calls[d]?
  len:k'.calls.length = k.calls.length
  own:∃ m,k'.epochs.1 = k.epochs.1++m∧m.length ≤ 1
  heard:∀ d,heard k' d = heard k d
theorem step_stepped {k:KK} (A:fj k) {c:Nat} {x:KC} (hc:c < k.calls.length) (hx:k.calls[c]? = some (some x)):Stepped k (KK.step k c).2 c ∧
    (x.fc.e0 ≠ 9→(KK.step k c).2.calls[c]? = some none∨∃ y,(KK.step k c).2.calls[c]? = some (some y)∧y.ftold = true∧y.fc = x.fc) ∧
    (x.ftold = true→Epochs.done k.epochs x.fepoch = true→(KK.step k c).2.calls[c]? = some none):=by
  have hi:KK.is k c = true:=by unfold KK.is; exact decide_eq_true (by omega)
  have hcall:KK.call k c = some x:=by unfold KK.call; rw [Int.toNat_natCast,List.getD_eq_getElem?_getD,hx]; rfl
  have hb:KK.busy k c = true:=by unfold KK.busy; rw [hi,hcall]; rfl
  have cw:=A.cw c x hx
  have hstep:(KK.step k c).2 = KK.work (KK.tick k) c x:=by unfold KK.step; rw [if_neg (by rw [hb]; simp),hcall]
  have ends_c:∀ (m:KK) (a:fG) (l:mh),m.calls = k.calls→(KK.ends m c x a l).calls = k.calls.set c none:=fun m a l h=>by unfold KK.ends; simp [h]
  have set_none:∀ d,d ≠ c→(k.calls.set c none)[d]? = k.calls[d]?:=fun d h=>by rw [List.getElem?_set,if_neg (fun e=>h e.symm)]
  have at_none:(k.calls.set c none)[c]? = some none:=by rw [List.getElem?_set,if_pos rfl,if_pos hc]
  have told_nu:x.ftold = true→¬ cK (aB x.fc).1 = true:=fun ht hu=>by
    have T:=A.teller ⟨hx,ht⟩
    have w:=well_of A.en.1 A.en.2 T.k
    have:=T.t
    rw [kind_val w.kind] at hu
    unfold cK at hu
    unfold Tk at this
    simp at hu
    omega
  rw [hstep]
  unfold KK.work
  by_cases hu:cK (aB x.fc).1 = true
  · rw [if_pos hu]
    have ha:(KK.access (KK.tick k) c x).2.calls = k.calls∧(KK.access (KK.tick k) c x).2.epochs = k.epochs:=by
      unfold KK.access
      split
      · exact ⟨rfl,rfl⟩
      · split <;> exact ⟨rfl,rfl⟩
    have hcs:=ends_c (KK.access (KK.tick k) c x).2 (KK.access (KK.tick k) c x).1.1 (KK.access (KK.tick k) c x).1.2 ha.1
    have hep:(KK.ends (KK.access (KK.tick k) c x).2 c x (KK.access (KK.tick k) c x).1.1 (KK.access (KK.tick k) c x).1.2).epochs = k.epochs:=ha.2
    refine ⟨⟨fun d h=>by rw [hcs]; exact set_none d h,by rw [hcs]; simp,⟨[],by rw [hep]; simp,Nat.zero_le _⟩,fun d=>by unfold heard; rw [hep]⟩,fun _=>.inl (by rw [hcs]; exact at_none),fun ht=>absurd hu (told_nu ht)⟩
  · rw [if_neg hu]
    by_cases ht:x.ftold = false∧KK.takes (KK.tick k).p x = true
    · rw [if_pos ht]
      have hcs:(KK.send (KK.clean (KK.tell (KK.tick k) c x) c) c x).calls = k.calls.set c (some { x with ftold:=true,fepoch:=(Epochs.begin_ k.epochs c).1.1 }):=by
        simp only [KK.send,KK.clean,KK.tell,KK.tick,Int.toNat_natCast,List.set_set]
      have hep:(KK.send (KK.clean (KK.tell (KK.tick k) c x) c) c x).epochs = (Epochs.begin_ k.epochs c).2:=rfl
      have hel:k.epochs.2.length = k.calls.length:=by have:=A.ok.el; have:=A.ok.cl; omega
      have he:(Epochs.begin_ k.epochs c).2 = (k.epochs.1++[(c:Int)],k.epochs.2):=by
        have:Epochs.is k.epochs c = true:=by unfold Epochs.is; exact decide_eq_true (by omega)
        unfold Epochs.begin_
        rw [if_pos this]
      refine ⟨⟨fun d h=>by rw [hcs,List.getElem?_set,if_neg (fun e=>h e.symm)],by rw [hcs]; simp,⟨[(c:Int)],by rw [hep,he],Nat.le_refl _⟩,fun d=>by unfold heard; rw [hep,he]⟩,fun _=>.inr ⟨{ x with ftold:=true,fepoch:=(Epochs.begin_ k.epochs c).1.1 },by rw [hcs,List.getElem?_set,if_pos rfl,if_pos hc],rfl,rfl⟩,fun h=>by rw [ht.1] at h; cases h⟩
    · rw [if_neg ht]
      by_cases hd:x.ftold = true∧Epochs.done (KK.tick k).epochs x.fepoch = false
      · rw [if_pos hd]
        refine ⟨⟨fun d h=>rfl,rfl,⟨[],by simp [KK.tick],Nat.zero_le _⟩,fun d=>rfl⟩,fun _=>.inr ⟨x,hx,hd.1,rfl⟩,fun h1 h2=>?_⟩
        have:=hd.2
        rw [show (KK.tick k).epochs = k.epochs from rfl,h2] at this
        cases this
      · rw [if_neg hd]
        by_cases h9:x.fc.e0 = 9
        · have hnt:¬ x.ftold = true:=fun h=>by
            have:=(A.teller ⟨hx,h⟩).t
            unfold Tk at this; omega
          split
          · have hcs:=ends_c { KK.tick k with p:=(PK.do_ (KK.tick k).p x.fenv x.fc).2 } (PK.do_ (KK.tick k).p x.fenv x.fc).1.1 kC rfl
            refine ⟨⟨fun d h=>by rw [hcs]; exact set_none d h,by rw [hcs]; simp,⟨[],by show k.epochs.1 = k.epochs.1++[]; simp,Nat.zero_le _⟩,fun d=>rfl⟩,fun h=>absurd h9 h,fun h=>absurd h hnt⟩
          · exact ⟨⟨fun d h=>rfl,rfl,⟨[],by show k.epochs.1 = k.epochs.1++[]; simp,Nat.zero_le _⟩,fun d=>rfl⟩,fun h=>absurd h9 h,fun h=>absurd h hnt⟩
        · have hdn:(PK.do_ (KK.tick k).p x.fenv x.fc).1.2 = true:=do_done cw h9 A.en
          rw [if_pos hdn]
          have hcs:=ends_c { KK.tick k with p:=(PK.do_ (KK.tick k).p x.fenv x.fc).2 } (PK.do_ (KK.tick k).p x.fenv x.fc).1.1 kC rfl
          refine ⟨⟨fun d h=>by rw [hcs]; exact set_none d h,by rw [hcs]; simp,⟨[],by show k.epochs.1 = k.epochs.1++[]; simp,Nat.zero_le _⟩,fun d=>rfl⟩,fun _=>.inl (by rw [hcs]; exact at_none),fun _ _=>by rw [hcs]; exact at_none⟩
structure Turned (P:KK→Prop) (k k':KK) (c:Nat):Prop where
  all:P k'
  other:∀ d,d ≠ c→k'.calls[d]? = k.calls[d]?
  len:k'.calls.length = k.calls.length
  own:∃ m,k'.epochs.1 = k.epochs.1++m∧m.length ≤ 1
  up:∀ d,heard k d ≤ heard k' d
  self:∀ n:Nat,n < k.epochs.1.length→k.epochs.1[n]? ≠ some (c:Int)→(n:Int) + 1 ≤ heard k' c
  lo:k.now ≤ k'.now
  now:k'.now ≤ k.now + 5001
theorem busy_nat {k:KK} {c:Nat} (hc:c < k.calls.length):KK.busy k c = true↔∃ x,k.calls[c]? = some (some x):=by
  have hi:KK.is k c = true:=by unfold KK.is; exact decide_eq_true (by omega)
  unfold KK.busy KK.call
  rw [hi,Int.toNat_natCast,List.getD_eq_getElem?_getD,List.getElem?_eq_getElem hc]
  cases k.calls[c] with
  | none=>simp
  | some x=>simp
theorem turn_turned (hp:Closed P) {k:KK} (A:P k) {c:Nat} (hc:c < k.calls.length) (hb:k.epochs.1.length ≤ 5000) (hnow:k.now < 2 ^ 35):Turned P k (KK.turn1 k c).1 c∧((KK.turn1 k c).2 = true↔∃ x,k.calls[c]? = some (some x)) ∧
    (k.calls[c]? = some none→(KK.turn1 k c).1.calls[c]? = some none) ∧
    (∀ x,k.calls[c]? = some (some x)→x.fc.e0 ≠ 9→(KK.turn1 k c).1.calls[c]? = some none∨∃ y,(KK.turn1 k c).1.calls[c]? = some (some y)∧y.ftold = true∧y.fc = x.fc) ∧
    (∀ x,k.calls[c]? = some (some x)→x.ftold = true→(∀ d,d < k.calls.length→d ≠ c→x.fepoch ≤ heard k d)→(KK.turn1 k c).1.calls[c]? = some none):=by
  have hbox:(Mail.box k.boxes c).length ≤ 5000:=by
    have:=box_len (box_of (hp.inv A).ok.bx (c:Int))
    omega
  have D:=drain_drained hp 5000 A hc hbox (by omega)
  have hself:∀ n:Nat,n < k.epochs.1.length→k.epochs.1[n]? ≠ some (c:Int)→(n:Int) + 1 ≤ heard (KK.drain c 5000 k) c:=by
    intro n h1 h2
    rcases (hp.inv D.all).mail c n (by rw [D.calls]; exact hc) (by rw [D.own]; exact h1) (by rw [D.own]; exact h2) with h | h
    · exact h
    · rw [D.box] at h; cases h
  unfold KK.turn1
  have hd:(KK.drain (c:Int) 5000 k) = KK.drain c 5000 k:=rfl
  by_cases hbz:KK.busy (KK.drain c 5000 k) c = true
  · rw [if_pos hbz]
    dsimp only
    have hcd:c < (KK.drain c 5000 k).calls.length:=by rw [D.calls]; exact hc
    obtain ⟨x,hx⟩:=(busy_nat hcd).1 hbz
    obtain ⟨S,s1,s2⟩:=step_stepped (hp.inv D.all) hcd hx
    have hx':k.calls[c]? = some (some x):=by rw [← D.calls]; exact hx
    have hn:=KK.step_now (k:=KK.drain c 5000 k) (hp.inv D.all).ok.n0 (by have:=D.now; omega) c
    refine ⟨⟨hp.step D.all (by have:=D.now; omega) c,fun d h=>by rw [S.other d h,D.calls],by rw [S.len,D.calls],?_,fun d=>by rw [S.heard]; exact D.up d,fun n h1 h2=>by rw [S.heard]; exact hself n h1 h2,by have:=D.lo; omega,by have:=D.now; omega⟩,⟨fun _=>⟨x,hx'⟩,fun _=>rfl⟩,fun h=>(by rw [hx'] at h; cases h),fun y hy h9=>?_,fun y hy ht hh=>?_⟩
    · obtain ⟨m,hm,hl⟩:=S.own
      exact ⟨m,by rw [hm,D.own],hl⟩
    · rw [hx'] at hy; cases hy; exact s1 h9
    · rw [hx'] at hy; cases hy
      refine s2 ht ?_
      have T:=(hp.inv D.all).told c x ⟨hx,ht⟩
      have hel:(KK.drain c 5000 k).epochs.2.length = k.calls.length:=by have:=(hp.inv D.all).ok.el; have:=(hp.inv D.all).ok.cl; rw [D.calls] at this; omega
      exact done_of T.2.1 T.2.2.1 T.2.2.2 fun d hdl hne=>Int.le_trans (hh d (by omega) hne) (D.up d)
  · rw [if_neg hbz]
    dsimp only
    have hcd:c < (KK.drain c 5000 k).calls.length:=by rw [D.calls]; exact hc
    have hno:¬ ∃ x,k.calls[c]? = some (some x):=fun ⟨x,h⟩=>hbz ((busy_nat hcd).2 ⟨x,by rw [D.calls]; exact h⟩)
    refine ⟨⟨D.all,fun d _=>by rw [D.calls],by rw [D.calls],⟨[],by rw [D.own]; simp,Nat.zero_le _⟩,D.up,hself,D.lo,by have:=D.now; omega⟩,⟨fun h=>(by cases h),fun h=>absurd h hno⟩,fun h=>by rw [D.calls]; exact h,fun y hy=>absurd ⟨y,hy⟩ hno,fun y hy=>absurd ⟨y,hy⟩ hno⟩
end Go.Proofs.YtmggcfijlpldpaaGreatDoor
namespace Go.Proofs.YtmggcfijlpldpaaGreatDoor
open Go Mb
variable {P:KK→Prop}
structure Swept (P:KK→Prop) (n c:Nat) (k k':KK) (b b':Bool):Prop where
  all:P k'
  len:k'.calls.length = k.calls.length
  own:∃ m,k'.epochs.1 = k.epochs.1++m∧m.length ≤ n
  up:∀ d,heard k d ≤ heard k' d
  lo:k.now ≤ k'.now
  now:k'.now ≤ k.now + n * 5001
  other:∀ d:Nat,d < c∨c + n ≤ d→k'.calls[d]? = k.calls[d]?
  none_:∀ d:Nat,k.calls[d]? = some none→k'.calls[d]? = some none
  busy:b' = true↔b = true∨∃ (d:Nat) (x:KC),c ≤ d∧d < c + n∧k.calls[d]? = some (some x)
  self:∀ d:Nat,c ≤ d→d < c + n→d < k.calls.length→∀ m:Nat,m < k.epochs.1.length→k.epochs.1[m]? ≠ some (d:Int)→(m:Int) + 1 ≤ heard k' d
  told:∀ (d:Nat) x,c ≤ d→d < c + n→k.calls[d]? = some (some x)→x.fc.e0 ≠ 9→k'.calls[d]? = some none∨∃ y,k'.calls[d]? = some (some y)∧y.ftold = true∧y.fc = x.fc∧∀ e,d < e→e < c + n→e < k.calls.length→y.fepoch ≤ heard k' e
  fin:∀ (d:Nat) x,c ≤ d→d < c + n→k.calls[d]? = some (some x)→x.ftold = true→(∀ e,e < k.calls.length→(e < c∨d < e)→x.fepoch ≤ heard k e)→k'.calls[d]? = some none
theorem turn_out {k:KK} {c:Nat} (hc:k.calls.length ≤ c):KK.turn1 k c = (k,false):=by
  have hi:KK.is k c = false:=by unfold KK.is; exact decide_eq_false (by omega)
  have hm:KK.mail k c = 0:=by unfold KK.mail; rw [hi]; rfl
  have hd:KK.drain (c:Int) 5000 k = k:=by
    rw [show (5000:Nat) = 4999 + 1 from rfl,KK.drain,if_neg (by rw [hm]; omega)]
  have hb:KK.busy k c = false:=by unfold KK.busy; rw [hi]; rfl
  unfold KK.turn1
  rw [hd,if_neg (by rw [hb]; decide)]
theorem qA (hp:Closed P):∀ (n:Nat) {c:Nat} {k:KK} (b:Bool),P k→k.epochs.1.length + n ≤ 5000→k.now + n * 5001 < 2 ^ 35→Swept P n c k (KK.sweep n c k b).1 b (KK.sweep n c k b).2
  | 0,c,k,b,A,_,_=>⟨A,rfl,⟨[],by simp [KK.sweep],Nat.zero_le _⟩,fun _=>Int.le_refl _,Int.le_refl _,by simp [KK.sweep],fun _ _=>rfl,fun _ h=>h,⟨fun h=>.inl h,fun h=>by
      rcases h with h | ⟨d,x,h1,h2,_⟩
      · exact h
      · omega⟩,fun d h1 h2=>by omega,fun d x h1 h2=>by omega,fun d x h1 h2=>by omega⟩
  | n + 1,c,k,b,A,hl,hn=>by
    have hI:=hp.inv A
    have e1:KK.sweep (n + 1) c k b = KK.sweep n ((c + 1:Nat):Int) (KK.turn1 k c).1 ((KK.turn1 k c).2 || b):=rfl
    rw [e1]
    rcases Nat.lt_or_ge c k.calls.length with hc | hc
    · obtain ⟨T,t1,t2,t3,t4⟩:=turn_turned hp A hc (by omega) (by omega)
      obtain ⟨m1,hm1,hl1⟩:=T.own
      have hn1:=T.now
      have hlo1:=T.lo
      have S:=qA hp n (c:=c + 1) ((KK.turn1 k c).2 || b) T.all (by rw [hm1,List.length_append]; omega) (by omega)
      obtain ⟨m2,hm2,hl2⟩:=S.own
      have hn2:=S.now
      have hlo2:=S.lo
      have own1:∀ m:Nat,m < k.epochs.1.length→(KK.turn1 k c).1.epochs.1[m]? = k.epochs.1[m]?:=fun m h=>by rw [hm1,List.getElem?_append_left h]
      have len1:k.epochs.1.length ≤ (KK.turn1 k c).1.epochs.1.length:=by rw [hm1,List.length_append]; omega
      have hS:=S.self
      have hTl:=T.len
      refine ⟨S.all,S.len.trans T.len,⟨m1++m2,by rw [hm2,hm1,List.append_assoc],by rw [List.length_append]; omega⟩,fun d=>Int.le_trans (T.up d) (S.up d),by omega,by omega,fun d h=>?_,fun d h=>?_,?_,fun d h1 h2 h3 m h4 h5=>?_,fun d x h1 h2 h3 h4=>?_,fun d x h1 h2 h3 h4 h5=>?_⟩
      · rw [S.other d (by omega),T.other d (by omega)]
      · refine S.none_ d ?_
        by_cases e:d = c
        · subst e; exact t2 h
        · rw [T.other d e]; exact h
      · rw [S.busy,Bool.or_eq_true,t1]
        constructor
        · rintro ((⟨x,h⟩ | h) | ⟨d,x,h1,h2,h3⟩)
          · exact .inr ⟨c,x,Nat.le_refl _,by omega,h⟩
          · exact .inl h
          · rw [T.other d (by omega)] at h3
            exact .inr ⟨d,x,by omega,by omega,h3⟩
        · rintro (h | ⟨d,x,h1,h2,h3⟩)
          · exact .inl (.inr h)
          · by_cases e:d = c
            · subst e; exact .inl (.inl ⟨x,h3⟩)
            · exact .inr ⟨d,x,by omega,by omega,by rw [T.other d e]; exact h3⟩
      · by_cases e:d = c
        · subst e
          exact Int.le_trans (T.self m h4 h5) (S.up d)
        · exact hS d (by omega) (by omega) (by omega) m (by omega) (by rw [own1 m h4]; exact h5)
      · by_cases e:d = c
        · subst e
          rcases t3 x h3 h4 with h6 | ⟨y,h6,h7,h8⟩
          · exact .inl (by rw [S.other d (by omega)]; exact h6)
          · refine .inr ⟨y,by rw [S.other d (by omega)]; exact h6,h7,h8,fun e h9 h10 h11=>?_⟩
            have Q:=(hp.inv T.all).told d y ⟨h6,h7⟩
            have:=hS e (by omega) (by omega) (by omega) (y.fepoch - 1).toNat (by omega) (by rw [Q.2.2.2]; intro h; injection h with h; omega)
            omega
        · rcases S.told d x (by omega) (by omega) (by rw [T.other d e]; exact h3) h4 with h6 | ⟨y,h6,h7,h8,h9⟩
          · exact .inl h6
          · exact .inr ⟨y,h6,h7,h8,fun e h10 h11 h12=>h9 e h10 (by omega) (by omega)⟩
      · by_cases e:d = c
        · subst e
          rw [S.other d (by omega)]
          exact t4 x h3 h4 fun a ha hne=>h5 a ha (by omega)
        · have Q:=hI.told d x ⟨h3,h4⟩
          refine S.fin d x (by omega) (by omega) (by rw [T.other d e]; exact h3) h4 fun a ha h=>?_
          by_cases e2:a = c
          · subst e2
            have:=T.self (x.fepoch - 1).toNat (by omega) (by rw [Q.2.2.2]; intro h; injection h with h; omega)
            omega
          · exact Int.le_trans (h5 a (by omega) (by omega)) (T.up a)
    · rw [turn_out hc]
      have S:=qA hp n (c:=c + 1) (false || b) A (by omega) (by omega)
      obtain ⟨m2,hm2,hl2⟩:=S.own
      have hn2:=S.now
      have hno:∀ (d:Nat) (o:Option KC),k.calls[d]? = some o→d < k.calls.length:=fun d o h=>(List.getElem?_eq_some_iff.1 h).1
      refine ⟨S.all,S.len,⟨m2,hm2,by omega⟩,S.up,S.lo,by show (KK.sweep n ((c + 1:Nat):Int) k (false || b)).1.now ≤ _; omega,fun d h=>?_,S.none_,?_,fun d h1 h2 h3=>by omega,fun d x h1 h2 h3 h4=>?_,fun d x h1 h2 h3 h4 h5=>?_⟩
      · rcases h with h | h
        · exact S.other d (by omega)
        · exact S.other d (by omega)
      · rw [S.busy]
        constructor
        · rintro (h | ⟨d,x,h1,h2,h3⟩)
          · exact .inl (by simpa using h)
          · exact .inr ⟨d,x,by omega,by omega,h3⟩
        · rintro (h | ⟨d,x,h1,h2,h3⟩)
          · exact .inl (by simpa using h)
          · have:=hno d _ h3; omega
      · have:=hno d _ h3; omega
      · have:=hno d _ h3; omega
structure Settled (P:KK→Prop) (cores:Nat) (k k':KK):Prop where
  all:P k'
  len:k'.calls.length = k.calls.length
  lo:k.now ≤ k'.now
  now:k'.now ≤ k.now + 3 * (cores * 5001)
  own:k'.epochs.1.length ≤ k.epochs.1.length + 3 * cores
  idle:∀ (d:Nat) x,k'.calls[d]? ≠ some (some x)
theorem settle_settled (hp:Closed P) {cores m:Nat} {k:KK} (A:P k) (hc:k.calls.length ≤ cores) (hc8:cores ≤ 8) (hl:k.epochs.1.length ≤ 4900) (hn:k.now < 2 ^ 34) (h9:∀ (d:Nat) x,k.calls[d]? = some (some x)→x.fc.e0 ≠ 9) :
    (KK.settle cores (m + 3) k).1 = true∧Settled P cores k (KK.settle cores (m + 3) k).2:=by
  have q1:cores * 5001 ≤ 8 * 5001:=Nat.mul_le_mul_right _ hc8
  have q2:((cores * 5001:Nat):Int) ≤ 8 * 5001:=by omega
  have q3:((cores * 5001:Nat):Int) = (cores:Int) * 5001:=by simp
  have inl:∀ {k:KK} {d:Nat} {o:Option KC},k.calls[d]? = some o→d < k.calls.length:=fun h=>(List.getElem?_eq_some_iff.1 h).1
  have none_of:∀ {k k':KK} {b b':Bool},Swept P cores 0 k k' b b'→k.calls.length ≤ cores→b' = false→∀ (d:Nat) x,k'.calls[d]? ≠ some (some x):=by
    intro k k' b b' S hk hb d x h
    have hd:=inl h
    have hk':=S.len
    rcases hcd:k.calls[d]? with _ | _ | y
    · rw [List.getElem?_eq_none_iff] at hcd; omega
    · rw [S.none_ d hcd] at h; cases h
    · have:b' = true:=S.busy.2 (.inr ⟨d,y,Nat.zero_le _,by omega,hcd⟩)
      rw [hb] at this; cases this
  have S1:=qA hp cores (c:=0) (k:=k) false A (by omega) (by omega)
  rw [show m + 3 = (m + 2) + 1 from rfl,KK.settle]
  rw [show KK.sweep cores 0 k false = KK.sweep cores ((0:Nat):Int) k false from rfl]
  generalize KK.sweep cores ((0:Nat):Int) k false = z1 at *
  obtain ⟨k1,b1⟩:=z1
  dsimp only at *
  obtain ⟨m1,hm1,hl1⟩:=S1.own
  have hl1':k1.epochs.1.length ≤ k.epochs.1.length + cores:=by rw [hm1,List.length_append]; omega
  have n1:=S1.now
  by_cases hb1:b1 = false
  · rw [if_pos hb1]
    exact ⟨rfl,S1.all,S1.len,S1.lo,by show k1.now ≤ _; omega,by show k1.epochs.1.length ≤ _; omega,none_of S1 hc hb1⟩
  · rw [if_neg hb1]
    have len1:=S1.len
    have S2:=qA hp cores (c:=0) (k:=k1) false S1.all (by omega) (by omega)
    have all1:∀ (d:Nat) x,k1.calls[d]? = some (some x)→x.ftold = true∧∀ e,d < e→e < k1.calls.length→x.fepoch ≤ heard k1 e:=by
      intro d x h
      have hd:=inl h
      rcases hcd:k.calls[d]? with _ | _ | y
      · rw [List.getElem?_eq_none_iff] at hcd; omega
      · rw [S1.none_ d hcd] at h; cases h
      · rcases S1.told d y (Nat.zero_le _) (by omega) hcd (h9 d y hcd) with h1 | ⟨z,h1,h2,h3,h4⟩
        · rw [h1] at h; cases h
        · rw [h1] at h; cases h
          exact ⟨h2,fun e he hl=>h4 e he (by omega) (by omega)⟩
    have idle2:∀ (d:Nat) x,(KK.sweep cores ((0:Nat):Int) k1 false).1.calls[d]? ≠ some (some x):=by
      intro d x h
      have hd:=inl h
      have len2:=S2.len
      rcases hcd:k1.calls[d]? with _ | _ | y
      · rw [List.getElem?_eq_none_iff] at hcd; omega
      · rw [S2.none_ d hcd] at h; cases h
      · obtain ⟨g1,g2⟩:=all1 d y hcd
        have:=S2.fin d y (Nat.zero_le _) (by omega) hcd g1 fun e he hh=>g2 e (by omega) he
        rw [this] at h; cases h
    rw [show m + 2 = (m + 1) + 1 from rfl,KK.settle]
    rw [show KK.sweep cores 0 k1 false = KK.sweep cores ((0:Nat):Int) k1 false from rfl]
    obtain ⟨m2,hm2,hl2⟩:=S2.own
    have hl2':(KK.sweep cores ((0:Nat):Int) k1 false).1.epochs.1.length ≤ k1.epochs.1.length + cores:=by rw [hm2,List.length_append]; omega
    have n2:=S2.now
    have o1:=S1.lo
    have o2:=S2.lo
    have len2:=S2.len
    generalize KK.sweep cores ((0:Nat):Int) k1 false = z2 at *
    obtain ⟨k2,b2⟩:=z2
    dsimp only at *
    by_cases hb2:b2 = false
    · rw [if_pos hb2]
      exact ⟨rfl,S2.all,by show k2.calls.length = _; omega,by show k.now ≤ k2.now; omega,by show k2.now ≤ _; omega,by show k2.epochs.1.length ≤ _; omega,idle2⟩
    · rw [if_neg hb2]
      have S3:=qA hp cores (c:=0) (k:=k2) false S2.all (by omega) (by omega)
      rw [show m + 1 = m + 1 from rfl,KK.settle]
      rw [show KK.sweep cores 0 k2 false = KK.sweep cores ((0:Nat):Int) k2 false from rfl]
      obtain ⟨m3,hm3,hl3⟩:=S3.own
      have hl3':(KK.sweep cores ((0:Nat):Int) k2 false).1.epochs.1.length ≤ k2.epochs.1.length + cores:=by rw [hm3,List.length_append]; omega
      have n3:=S3.now
      have o3:=S3.lo
      have len3:=S3.len
      have hb3:(KK.sweep cores ((0:Nat):Int) k2 false).2 = false:=by
        cases hz:(KK.sweep cores ((0:Nat):Int) k2 false).2 with
        | false=>rfl
        | true =>
          rcases S3.busy.1 hz with h | ⟨d,x,_,_,h⟩
          · cases h
          · exact absurd h (idle2 d x)
      rw [if_pos hb3]
      exact ⟨rfl,S3.all,by show (KK.sweep cores ((0:Nat):Int) k2 false).1.calls.length = _; omega,by show k.now ≤ (KK.sweep cores ((0:Nat):Int) k2 false).1.now; omega,by show (KK.sweep cores ((0:Nat):Int) k2 false).1.now ≤ _; omega,by show (KK.sweep cores ((0:Nat):Int) k2 false).1.epochs.1.length ≤ _; omega,none_of S3 (by omega) hb3⟩
theorem ie_closed:Closed IE:=⟨fun A=>A.inv,fun A hn c=>A.post hn c,fun A hn c=>A.step hn c⟩
theorem IE.ended {k:KK} (A:IE k) (h:∀ (d:Nat) x,k.calls[d]? ≠ some (some x)):∀ e ∈ k.events,e.fEnd ≠ 0∧e.fEffect ≠ 0:=by
  intro e he
  obtain ⟨i,hi⟩:=List.getElem?_of_mem he
  have h0:e.fEffect ≠ 0:=fun h0=>by
    obtain ⟨x,hx,_⟩:=A.ev.open_ i e hi h0
    exact h _ x hx
  rcases (A.ev.one i e hi).st with s | s
  · exact absurd s.1 h0
  · exact ⟨by rw [s.2.1]; exact h0,h0⟩
end Go.Proofs.YtmggcfijlpldpaaGreatDoor
namespace Go.Proofs.YtmggcfijlpldpaaGreatDoor
open Go Mb
set_option linter.unusedVariables false
def errors_as_l2 (a1:Value) (a2:aJ) (a3:Value) (K:Bool→Hp→Prop) (v48:Sl) (Rec25:Int→Hp→Prop) (s24:Int):Hp→Prop:=br (decide (s24 < (v48.len:Int))) ( ix v48 s24 fun q52=>ld (q52.1,q52.2 + Int.toNat s24 * 1) cV fun x53=>hpv Tryz.prog (do eqGuard .eql 195 (.tmp 54) (.const Value.nilIface) x53 Value.nilIface; binOp .eql 195 x53 Value.nilIface:Sem Value) aA fun (v55:Bool)=>br v55 ( Rec25 (IntKind.i64.wrap (s24 + 1))) ( cl Tryz.prog uy [x53,a1,(.agg (aJ.C a2).toArray),a3] aA fun r60=>br r60 ( K true) ( Rec25 (IntKind.i64.wrap (s24 + 1))))) ( K false)
def xn (a1:Value) (a2:aJ) (a3:Value) (K:Bool→Hp→Prop) (Rec2:Value→Hp→Prop) (s1:Value) (s11:Unit):Hp→Prop:=hpv Tryz.prog (Instr.typeAssert s1 gj jf true) gg fun (v37:Value × Bool)=>br v37.2 ( cln Tryz.prog (callMethod v37.1 "Unwrap" #[]) encV fun (v41:Value)=>hpv Tryz.prog (do eqGuard .eql 195 (.tmp 42) (.const Value.nilIface) v41 Value.nilIface; binOp .eql 195 v41 Value.nilIface:Sem Value) aA fun (v43:Bool)=>br v43 ( K false) ( Rec2 v41)) ( hpv Tryz.prog (Instr.typeAssert s1 gj iz true) fT fun (v44:Value × Bool)=>br v44.2 ( cln Tryz.prog (callMethod v44.1 "Unwrap" #[]) R_Serror fun (v48:Sl)=>Lp (errors_as_l2 a1 a2 a3 K v48) 0) ( K false))
def xm (a1:Value) (a2:aJ) (a3:Value) (K:Bool→Hp→Prop) (Rec2:Value→Hp→Prop) (s1:Value):Hp→Prop:=cln Tryz.prog (callFunc fY #[s1]) encV fun (v17:Value)=>cln Tryz.prog (callMethod v17 "AssignableTo" #[a3]) aA fun (v19:Bool)=>br v19 ( cln Tryz.prog (callFunc fd #[(.agg (aJ.C a2).toArray)]) fA fun (v21:aJ)=>cln Tryz.prog (callFunc cU #[s1]) fA fun (v23:aJ)=>cln Tryz.prog (callFunc fu #[(.agg (aJ.C v21).toArray),(.agg (aJ.C v23).toArray)]) R_ fun (v24:Unit)=>K true) ( hpv Tryz.prog (Instr.typeAssert s1 gj qx true) nA fun (v27:Value × Bool)=>br v27.2 ( cln Tryz.prog (callMethod v27.1 "As" #[a1]) aA fun (v34:Bool)=>br v34 ( K true) ( xn a1 a2 a3 K Rec2 s1 ())) ( xn a1 a2 a3 K Rec2 s1 ()))
def sh_errors_as (a0:Value) (a1:Value) (a2:aJ) (a3:Value) (K:Bool→Hp→Prop):Hp→Prop:=Lp (xm a1 a2 a3 K) a0
theorem sim_errors_as (a0:Value) (a1:Value) (a2:aJ) (a3:Value) {K:Bool→Hp→Prop} {h:Hp} (H:sh_errors_as a0 a1 a2 a3 K h):Ct Tryz.prog uy #[a0,a1,(.agg (aJ.C a2).toArray),a3] h fun v h'=>∃ r,v = aA r∧K r h':=au [a0,a1,(.agg (aJ.C a2).toArray),a3] Tryz.func228 c c c fun _=>M<|aa<|cC (l:=aJ.C a2) c c c fun b6=>O c<|ay<|bE (step:=xm a1 a2 a3 K) (fun s1=>[(0,s1),(1,a1),(3,a3),(6,(.pointer (some ⟨b6,0,none⟩)))]) (fun s1=>[bx b6 295 (aJ.C a2)]) H (.cons c<|.cons c<|.cons c<|.cons c<|.nil _) (.cons_cons _ .slnil) fun Rec2 s1 _ H3=>ay<|ak<|M<|J c<|aa<|fW H3 (rO (vs:=[s1]) c) c fun v17 _ H4=>J c<|aa<|fW H4 (fV (vs:=[a3]) c c) c fun v19 _ H5=>ad<|av c H5 (fun k6 H7=>M<|be (bC (k:=0) ag_295 c c c c) c<|aa<|fW H7 (rO (vs:=[(.agg (aJ.C a2).toArray)]) c) c fun v21 _ H8=>J c<|aa<|fW H8 (rO (vs:=[s1]) c) c fun v23 _ H9=>aa<|fW H9 (rO (vs:=[(.agg (aJ.C v21).toArray),(.agg (aJ.C v23).toArray)]) c) c fun v24 _ H10=>ad<|M<|O c<|ai<|Y ⟨true,c,H10⟩) fun k6 H7=>an<|eu (xn a1 a2 a3 K Rec2 s1) (fun s11=>[(0,s1),(1,a1),(3,a3),(6,(.pointer (some ⟨b6,0,none⟩)))]) (fun s11=>[bx b6 295 (aJ.C a2)]) (M<|J c<|aa<|aR H7 (fU c) c fun v27 _ H39=>J c<|p (aj c c)<|p (aj c c)<|p (ar c)<|O c<|M<|J c<|J c<|V c c (ax _) (fun g40=>wv<|ag c)<|V c c (ax _) (fun g41=>wv<|ag c)<|bO H39 (fun k43 H44=>F (D k43)<|fW H44 (fV (vs:=[a1]) (aD c k43)<|aP (aD c k43) bS) c fun v34 _ H45=>p (aQ c k43 c)<|ad<|av c H45 (fun k46 H47=>M<|O c<|ai<|Y ⟨true,c,H47⟩) fun k46 H47=>an<|cG () H47 (.cons c<|.cons c<|.cons c<|.cons c<|.nil _)<|.cons_cons _ .slnil) fun k43 H44=>W (aS k43)<|p (ap c k43 c)<|ad<|ev_no c c<|an<|cG () H44 (.cons c<|.cons c<|.cons c<|.cons c<|.nil _)<|.cons_cons _ .slnil) fun s11 _ H12=>M<|J c<|ad<|ay<|M<|aa<|aR H12 (fU c) c fun v37 _ H13=>p (aj c c)<|p (aj c c)<|ad<|av c H13 (fun k14 H15=>M<|O c<|M<|J c<|aa<|fW H15 (fV (vs:=[]) c c) c fun v41 _ H16=>O c<|M<|J c<|aa<|aR H16 (gi c c) c fun v43 _ H17=>ad<|av c H17 (fun k18 H19=>M<|O c<|ai<|Y ⟨false,c,H19⟩) fun k18 H19=>an<|cL v41 H19 (.cons c<|.cons c<|.cons c<|.cons c<|.nil _)<|.cons_cons _ .slnil) fun k14 H15=>M<|aa<|aR H15 (fU c) c fun v44 _ H20=>p (aj c c)<|p (aj c c)<|ad<|av c H20 (fun k21 H22=>M<|O c<|ak<|M<|J c<|aa<|fW H22 (fV (vs:=[]) c c) c fun v48 _ H23=>p (dy c Tryz.underlying278 c)<|J c<|ad<|ay<|bE (step:=errors_as_l2 a1 a2 a3 K v48) (fun s24=>[(1,a1),(3,a3),(6,(.pointer (some ⟨b6,0,none⟩))),(48,(sv v48)),(49,(.int .i64 (v48.len:Int))),(50,(.int .i64 s24))]) (fun s24=>[bx b6 295 (aJ.C a2)]) H23 (.cons c<|.cons c<|.cons c<|.cons c<|.cons c<|.cons c<|.nil _) (.cons_cons _ .slnil) fun Rec25 s24 _ H26=>M<|p (cu c c)<|ad<|ak<|av c H26 (fun k27 H28=>an<|ak<|ay<|M<|cj H28 fun q52 e29 h30 H31=>p (bn slc_278 (aL c<|aZ e29) c h30)<|aa<|aU H31 sc_195 c (fun _=>c) c fun x53 H32=>O c<|ak<|M<|J c<|aa<|aR H32 (gi c c) c fun v55 _ H33=>ad<|av c H33 (fun k34 H35=>bj<|aq<|p (bq c c)<|J c<|ad<|cL (IntKind.i64.wrap (s24 + 1)) H35 (.cons c<|.cons c<|.cons c<|.cons c<|.cons c<|.cons c<|.nil _)<|.cons_cons _ .slnil) fun k34 H35=>an<|M<|J c<|J c<|be (bC (k:=0) ag_295 c c c c) c<|J c<|aa<|Z H35 en_228 fun r60 _ H36=>ad<|av c H36 (fun k37 H38=>M<|O c<|ai<|Y ⟨true,c,H38⟩) fun k37 H38=>an<|aq<|p (bq c c)<|J c<|ad<|cL (IntKind.i64.wrap (s24 + 1)) H38 (.cons c<|.cons c<|.cons c<|.cons c<|.cons c<|.cons c<|.nil _)<|.cons_cons _ .slnil) fun k27 H28=>bj<|M<|O c<|ai<|Y ⟨false,c,H28⟩) fun k21 H22=>M<|O c<|M<|O c<|ai<|Y ⟨false,c,H22⟩
def sm (a0:Value) (a1:Value) (K:Bool→Hp→Prop) (v14:aJ) (v26:Value) (s11:Unit):Hp→Prop:=cl Tryz.prog uy [a0,a1,(.agg (aJ.C v14).toArray),v26] aA fun r41=>K r41
def xo (a0:Value) (a1:Value) (K:Bool→Hp→Prop) (v14:aJ) (v16:Value) (s8:Unit):Hp→Prop:=cln Tryz.prog (callMethod v16 "Elem" #[]) encV fun (v26:Value)=>cln Tryz.prog (callMethod v26 "Kind" #[]) R_abi_Kind fun (v28:Int)=>br (v28 != 20) ( ld (0,0) cV fun x32=>cln Tryz.prog (callMethod v26 "Implements" #[x32]) aA fun (v33:Bool)=>br (!v33) ( hpv Tryz.prog (Instr.makeInterface uY (.string str_6ae768b9)) encV fun (v36:Value)=>nope) ( sm a0 a1 K v14 v26 ())) ( sm a0 a1 K v14 v26 ())
def xp (a0:Value) (a1:Value) (K:Bool→Hp→Prop) (s4:Unit):Hp→Prop:=cln Tryz.prog (callFunc cU #[a1]) fA fun (v14:aJ)=>cln Tryz.prog (callFunc iw #[(.agg (aJ.C v14).toArray)]) encV fun (v16:Value)=>cln Tryz.prog (callMethod v16 "Kind" #[]) R_abi_Kind fun (v18:Int)=>br (!(v18 != 22)) ( cln Tryz.prog (callFunc eR #[(.agg (aJ.C v14).toArray)]) aA fun (v22:Bool)=>br v22 ( hpv Tryz.prog (Instr.makeInterface uY (.string str_ae9b7a08)) encV fun (v24:Value)=>nope) ( xo a0 a1 K v14 v16 ())) ( hpv Tryz.prog (Instr.makeInterface uY (.string str_ae9b7a08)) encV fun (v24:Value)=>nope)
def wN (a0:Value) (a1:Value) (K:Bool→Hp→Prop):Hp→Prop:=hpv Tryz.prog (do eqGuard .eql 195 (.tmp 8) (.const Value.nilIface) a0 Value.nilIface; binOp .eql 195 a0 Value.nilIface:Sem Value) aA fun (v9:Bool)=>br v9 ( K false) ( hpv Tryz.prog (do eqGuard .eql 20 (.tmp 10) (.const Value.nilIface) a1 Value.nilIface; binOp .eql 20 a1 Value.nilIface:Sem Value) aA fun (v11:Bool)=>br v11 ( hpv Tryz.prog (Instr.makeInterface uY (.string str_53947bae)) encV fun (v12:Value)=>nope) ( xp a0 a1 K ()))
theorem sim_errors_As (a0:Value) (a1:Value) {K:Bool→Hp→Prop} {h:Hp} (H:wN a0 a1 K h):Ct Tryz.prog uz #[a0,a1] h fun v h'=>∃ r,v = aA r∧K r h':=au [a0,a1] Tryz.func223 c c c fun _=>M<|O c<|ak<|M<|J c<|aa<|aR H (gi c c) c fun v9 _ H1=>ad<|av c H1 (fun k2 H3=>M<|O c<|ai<|Y ⟨false,c,H3⟩) fun k2 H3=>an<|eu (xp a0 a1 K) (fun s4=>[(0,a0),(1,a1)]) (fun s4=>[]) (M<|J c<|aa<|aR H3 (gi c c) c fun v11 _ H34=>ad<|av c H34 (fun k35 H36=>aq<|aa<|aR H36 (gt c) c fun v12 _ H37=>evlNo H37) fun k35 H36=>an<|cG () H36 (.cons c<|.cons c<|.nil _) .slnil) fun s4 _ H5=>M<|J c<|aa<|fW H5 (rO (vs:=[a1]) c) c fun v14 _ H6=>aa<|aM (l:=aJ.C (⟨none,none,0⟩:aJ)) zero_295 c c fun b5=>aa<|aO (k:=0) (vs:=aJ.C v14) inf_295 c c c c c c c<|ad<|M<|be (bC (k:=0) ag_295 c c c c) c<|aa<|fW H6 (rO (vs:=[(.agg (aJ.C v14).toArray)]) c) c fun v16 _ H7=>O c<|eu (xo a0 a1 K v14 v16) (fun s8=>[(0,a0),(1,a1),(5,(.pointer (some ⟨b5,0,none⟩))),(6,v16)]) (fun s8=>[bx b5 295 (aJ.C v14)]) (M<|J c<|aa<|fW H7 (fV (vs:=[]) c c) c fun v18 _ H24=>p (pb c c)<|J c<|V c c (aH _) (fun g25=>cv<|bC (k:=0) ag_295 c c c c)<|bO H24 (fun k27 H28=>F (D<|bH k27)<|fW H28 (rO (vs:=[(.agg (aJ.C v14).toArray)])<|aP (aD c k27) bS) c fun v22 _ H29=>p (ap c (bH k27) c)<|ad<|av c H29 (fun k30 H31=>aq<|aa<|aR H31 (gt c) c fun v24 _ H32=>evlNo H32) fun k30 H31=>an<|cG () H31 (.cons c<|.cons c<|.cons c<|.cons c<|.nil _)<|.cons_cons _ .slnil) fun k27 H28=>W (bG<|bi k27)<|p (aQ c (bi k27) c)<|ad<|kG c c<|aq<|aa<|aR H28 (gt c) c fun v24 _ H33=>evlNo H33) fun s8 _ H9=>M<|J c<|aa<|fW H9 (fV (vs:=[]) c c) c fun v26 _ H10=>O c<|eu (sm a0 a1 K v14 v26) (fun s11=>[(0,a0),(1,a1),(5,(.pointer (some ⟨b5,0,none⟩))),(7,v26)]) (fun s11=>[bx b5 295 (aJ.C v14)]) (M<|J c<|aa<|fW H10 (fV (vs:=[]) c c) c fun v28 _ H14=>p (pb c c)<|J c<|V c c (ax _) (fun g15=>wv<|ag c)<|bO H14 (fun k17 H18=>F (D k17)<|aU H18 sc_243 c (fun _=>c) c fun x32 H19=>F (D k17)<|fW H19 (fV (vs:=[x32]) (aD c k17) c) c fun v33 _ H20=>F (D k17)<|I (cq c)<|p (aQ c k17 c)<|ad<|av c H20 (fun k21 H22=>aq<|aa<|aR H22 (gt c) c fun v36 _ H23=>evlNo H23) fun k21 H22=>an<|cG () H22 (.cons c<|.cons c<|.cons c<|.cons c<|.nil _)<|.cons_cons _ .slnil) fun k17 H18=>W (aS k17)<|W (aS k17)<|W (aS k17)<|p (ap c k17 c)<|ad<|ev_no c c<|an<|cG () H18 (.cons c<|.cons c<|.cons c<|.cons c<|.nil _)<|.cons_cons _ .slnil) fun s11 _ H12=>M<|J c<|J c<|be (bC (k:=0) ag_295 c c c c) c<|J c<|aa<|Z H12 en_228 fun r41 _ H13=>O c<|ai<|Y ⟨r41,c,H13⟩
def errors_is_l2 (a1:Value) (a2:Bool) (K:Bool→Hp→Prop) (v43:Sl) (Rec26:Int→Hp→Prop) (s25:Int):Hp→Prop:=br (decide (s25 < (v43.len:Int))) ( ix v43 s25 fun q47=>ld (q47.1,q47.2 + Int.toNat s25 * 1) cV fun x48=>cl Tryz.prog nK [x48,a1,(.bool a2)] aA fun r52=>br r52 ( K true) ( Rec26 (IntKind.i64.wrap (s25 + 1)))) ( K false)
def sk (a1:Value) (a2:Bool) (K:Bool→Hp→Prop) (Rec2:Value→Hp→Prop) (s1:Value) (s12:Unit):Hp→Prop:=hpv Tryz.prog (Instr.typeAssert s1 gj jf true) gg fun (v32:Value × Bool)=>br v32.2 ( cln Tryz.prog (callMethod v32.1 "Unwrap" #[]) encV fun (v36:Value)=>hpv Tryz.prog (do eqGuard .eql 195 (.tmp 37) (.const Value.nilIface) v36 Value.nilIface; binOp .eql 195 v36 Value.nilIface:Sem Value) aA fun (v38:Bool)=>br v38 ( K false) ( Rec2 v36)) ( hpv Tryz.prog (Instr.typeAssert s1 gj iz true) fT fun (v39:Value × Bool)=>br v39.2 ( cln Tryz.prog (callMethod v39.1 "Unwrap" #[]) R_Serror fun (v43:Sl)=>Lp (errors_is_l2 a1 a2 K v43) 0) ( K false))
def errors_is_l3 (a1:Value) (a2:Bool) (K:Bool→Hp→Prop) (v43:Sl) (Rec60:Int→Hp→Prop) (s59:Int):Hp→Prop:=br (decide (s59 < (v43.len:Int))) ( ix v43 s59 fun q47=>ld (q47.1,q47.2 + Int.toNat s59 * 1) cV fun x48=>cl Tryz.prog nK [x48,a1,(.bool a2)] aA fun r52=>br r52 ( K true) ( Rec60 (IntKind.i64.wrap (s59 + 1)))) ( K false)
def xl (a1:Value) (a2:Bool) (K:Bool→Hp→Prop) (Rec2:Value→Hp→Prop) (s1:Value) (s46:Unit):Hp→Prop:=hpv Tryz.prog (Instr.typeAssert s1 gj jf true) gg fun (v32:Value × Bool)=>br v32.2 ( cln Tryz.prog (callMethod v32.1 "Unwrap" #[]) encV fun (v36:Value)=>hpv Tryz.prog (do eqGuard .eql 195 (.tmp 37) (.const Value.nilIface) v36 Value.nilIface; binOp .eql 195 v36 Value.nilIface:Sem Value) aA fun (v38:Bool)=>br v38 ( K false) ( Rec2 v36)) ( hpv Tryz.prog (Instr.typeAssert s1 gj iz true) fT fun (v39:Value × Bool)=>br v39.2 ( cln Tryz.prog (callMethod v39.1 "Unwrap" #[]) R_Serror fun (v43:Sl)=>Lp (errors_is_l3 a1 a2 K v43) 0) ( K false))
def sj (a1:Value) (a2:Bool) (K:Bool→Hp→Prop) (Rec2:Value→Hp→Prop) (s1:Value):Hp→Prop:=br a2 ( hpv Tryz.prog (do eqGuard .eql 195 (.tmp 16) (.tmp 17) s1 a1; binOp .eql 195 s1 a1:Sem Value) aA fun (v18:Bool)=>br v18 ( K true) ( hpv Tryz.prog (Instr.typeAssert s1 gj mi true) jG fun (v22:Value × Bool)=>br v22.2 ( cln Tryz.prog (callMethod v22.1 "Is" #[a1]) aA fun (v29:Bool)=>br v29 ( K true) ( sk a1 a2 K Rec2 s1 ())) ( sk a1 a2 K Rec2 s1 ()))) ( hpv Tryz.prog (Instr.typeAssert s1 gj mi true) jG fun (v22:Value × Bool)=>br v22.2 ( cln Tryz.prog (callMethod v22.1 "Is" #[a1]) aA fun (v29:Bool)=>br v29 ( K true) ( xl a1 a2 K Rec2 s1 ())) ( xl a1 a2 K Rec2 s1 ()))
def wL (a0:Value) (a1:Value) (a2:Bool) (K:Bool→Hp→Prop):Hp→Prop:=Lp (sj a1 a2 K) a0
theorem sim_errors_is (a0:Value) (a1:Value) (a2:Bool) {K:Bool→Hp→Prop} {h:Hp} (H:wL a0 a1 a2 K h):Ct Tryz.prog nK #[a0,a1,(.bool a2)] h fun v h'=>∃ r,v = aA r∧K r h':=au [a0,a1,(.bool a2)] Tryz.func183 c c c fun _=>M<|O c<|ay<|bE (step:=sj a1 a2 K) (fun s1=>[(0,s1),(1,a1),(2,(.bool a2))]) (fun s1=>[]) H (.cons c<|.cons c<|.cons c<|.nil _) .slnil fun Rec2 s1 _ H3=>ay<|ak<|M<|J c<|J c<|V c c (ax _) (fun g4=>wv<|ag c)<|V c c (ax _) (fun g5=>wv<|ag c)<|bO H3 (fun k7 H8=>F (D k7)<|aR H8 (gi (aD c k7)<|aD c k7) c fun v18 _ H9=>p (aQ c k7 c)<|ad<|av c H9 (fun k10 H11=>M<|O c<|ai<|Y ⟨true,c,H11⟩) fun k10 H11=>an<|eu (sk a1 a2 K Rec2 s1) (fun s12=>[(0,s1),(1,a1),(2,(.bool a2))]) (fun s12=>[]) (M<|J c<|aa<|aR H11 (fU c) c fun v22 _ H37=>J c<|p (aj c c)<|p (aj c c)<|p (ar c)<|O c<|M<|J c<|J c<|V c c (ax _) (fun g38=>wv<|ag c)<|V c c (ax _) (fun g39=>wv<|ag c)<|bO H37 (fun k41 H42=>F (D k41)<|fW H42 (fV (vs:=[a1]) (aD c k41)<|aP (aD c k41) bS) c fun v29 _ H43=>p (aQ c k41 c)<|ad<|av c H43 (fun k44 H45=>M<|O c<|ai<|Y ⟨true,c,H45⟩) fun k44 H45=>an<|cG () H45 (.cons c<|.cons c<|.cons c<|.nil _) .slnil) fun k41 H42=>W (aS k41)<|p (ap c k41 c)<|ad<|ev_no c c<|an<|cG () H42 (.cons c<|.cons c<|.cons c<|.nil _) .slnil) fun s12 _ H13=>M<|J c<|ad<|ay<|M<|aa<|aR H13 (fU c) c fun v32 _ H14=>p (aj c c)<|p (aj c c)<|ad<|av c H14 (fun k15 H16=>M<|O c<|M<|J c<|aa<|fW H16 (fV (vs:=[]) c c) c fun v36 _ H17=>O c<|M<|J c<|aa<|aR H17 (gi c c) c fun v38 _ H18=>ad<|av c H18 (fun k19 H20=>M<|O c<|ai<|Y ⟨false,c,H20⟩) fun k19 H20=>an<|cL v36 H20 (.cons c<|.cons c<|.cons c<|.nil _) .slnil) fun k15 H16=>M<|aa<|aR H16 (fU c) c fun v39 _ H21=>p (aj c c)<|p (aj c c)<|ad<|av c H21 (fun k22 H23=>M<|O c<|ak<|M<|J c<|aa<|fW H23 (fV (vs:=[]) c c) c fun v43 _ H24=>p (dy c Tryz.underlying278 c)<|J c<|ad<|ay<|bE (step:=errors_is_l2 a1 a2 K v43) (fun s25=>[(1,a1),(2,(.bool a2)),(43,(sv v43)),(44,(.int .i64 (v43.len:Int))),(45,(.int .i64 s25))]) (fun s25=>[]) H24 (.cons c<|.cons c<|.cons c<|.cons c<|.cons c<|.nil _) .slnil fun Rec26 s25 _ H27=>M<|p (cu c c)<|ad<|ak<|av c H27 (fun k28 H29=>an<|ak<|ay<|M<|cj H29 fun q47 e30 h31 H32=>p (bn slc_278 (aL c<|aZ e30) c h31)<|aa<|aU H32 sc_195 c (fun _=>c) c fun x48 H33=>O c<|M<|J c<|J c<|J c<|aa<|Z H33 en_183 fun r52 _ H34=>ad<|av c H34 (fun k35 H36=>M<|O c<|ai<|Y ⟨true,c,H36⟩) fun k35 H36=>an<|aq<|p (bq c c)<|J c<|ad<|cL (IntKind.i64.wrap (s25 + 1)) H36 (.cons c<|.cons c<|.cons c<|.cons c<|.cons c<|.nil _) .slnil) fun k28 H29=>bj<|M<|O c<|ai<|Y ⟨false,c,H29⟩) fun k22 H23=>M<|O c<|M<|O c<|ai<|Y ⟨false,c,H23⟩) fun k7 H8=>W (aS k7)<|p (ap c k7 c)<|ad<|ev_no c c<|an<|eu (xl a1 a2 K Rec2 s1) (fun s46=>[(0,s1),(1,a1),(2,(.bool a2))]) (fun s46=>[]) (M<|J c<|aa<|aR H8 (fU c) c fun v22 _ H71=>J c<|p (aj c c)<|p (aj c c)<|p (ar c)<|O c<|M<|J c<|J c<|V c c (ax _) (fun g72=>wv<|ag c)<|V c c (ax _) (fun g73=>wv<|ag c)<|bO H71 (fun k75 H76=>F (D k75)<|fW H76 (fV (vs:=[a1]) (aD c k75)<|aP (aD c k75) bS) c fun v29 _ H77=>p (aQ c k75 c)<|ad<|av c H77 (fun k78 H79=>M<|O c<|ai<|Y ⟨true,c,H79⟩) fun k78 H79=>an<|cG () H79 (.cons c<|.cons c<|.cons c<|.nil _) .slnil) fun k75 H76=>W (aS k75)<|p (ap c k75 c)<|ad<|ev_no c c<|an<|cG () H76 (.cons c<|.cons c<|.cons c<|.nil _) .slnil) fun s46 _ H47=>M<|J c<|ad<|ay<|M<|aa<|aR H47 (fU c) c fun v32 _ H48=>p (aj c c)<|p (aj c c)<|ad<|av c H48 (fun k49 H50=>M<|O c<|M<|J c<|aa<|fW H50 (fV (vs:=[]) c c) c fun v36 _ H51=>O c<|M<|J c<|aa<|aR H51 (gi c c) c fun v38 _ H52=>ad<|av c H52 (fun k53 H54=>M<|O c<|ai<|Y ⟨false,c,H54⟩) fun k53 H54=>an<|cL v36 H54 (.cons c<|.cons c<|.cons c<|.nil _) .slnil) fun k49 H50=>M<|aa<|aR H50 (fU c) c fun v39 _ H55=>p (aj c c)<|p (aj c c)<|ad<|av c H55 (fun k56 H57=>M<|O c<|ak<|M<|J c<|aa<|fW H57 (fV (vs:=[]) c c) c fun v43 _ H58=>p (dy c Tryz.underlying278 c)<|J c<|ad<|ay<|bE (step:=errors_is_l3 a1 a2 K v43) (fun s59=>[(1,a1),(2,(.bool a2)),(43,(sv v43)),(44,(.int .i64 (v43.len:Int))),(45,(.int .i64 s59))]) (fun s59=>[]) H58 (.cons c<|.cons c<|.cons c<|.cons c<|.cons c<|.nil _) .slnil fun Rec60 s59 _ H61=>M<|p (cu c c)<|ad<|ak<|av c H61 (fun k62 H63=>an<|ak<|ay<|M<|cj H63 fun q47 e64 h65 H66=>p (bn slc_278 (aL c<|aZ e64) c h65)<|aa<|aU H66 sc_195 c (fun _=>c) c fun x48 H67=>O c<|M<|J c<|J c<|J c<|aa<|Z H67 en_183 fun r52 _ H68=>ad<|av c H68 (fun k69 H70=>M<|O c<|ai<|Y ⟨true,c,H70⟩) fun k69 H70=>an<|aq<|p (bq c c)<|J c<|ad<|cL (IntKind.i64.wrap (s59 + 1)) H70 (.cons c<|.cons c<|.cons c<|.cons c<|.cons c<|.nil _) .slnil) fun k62 H63=>bj<|M<|O c<|ai<|Y ⟨false,c,H63⟩) fun k56 H57=>M<|O c<|M<|O c<|ai<|Y ⟨false,c,H57⟩
def wM (a0:Value) (a1:Value) (K:Bool→Hp→Prop):Hp→Prop:=hpv Tryz.prog (do eqGuard .eql 195 (.tmp 6) (.const Value.nilIface) a0 Value.nilIface; binOp .eql 195 a0 Value.nilIface:Sem Value) aA fun (v7:Bool)=>br (!v7) ( hpv Tryz.prog (do eqGuard .eql 195 (.tmp 9) (.const Value.nilIface) a1 Value.nilIface; binOp .eql 195 a1 Value.nilIface:Sem Value) aA fun (v10:Bool)=>br v10 ( hpv Tryz.prog (do eqGuard .eql 195 (.tmp 12) (.tmp 13) a0 a1; binOp .eql 195 a0 a1:Sem Value) aA fun (v14:Bool)=>K v14) ( cln Tryz.prog (callFunc fY #[a1]) encV fun (v16:Value)=>cln Tryz.prog (callMethod v16 "Comparable" #[]) aA fun (v17:Bool)=>cl Tryz.prog nK [a0,a1,(.bool v17)] aA fun r21=>K r21)) ( hpv Tryz.prog (do eqGuard .eql 195 (.tmp 12) (.tmp 13) a0 a1; binOp .eql 195 a0 a1:Sem Value) aA fun (v14:Bool)=>K v14)
theorem sim_errors_Is (a0:Value) (a1:Value) {K:Bool→Hp→Prop} {h:Hp} (H:wM a0 a1 K h):Ct Tryz.prog nL #[a0,a1] h fun v h'=>∃ r,v = aA r∧K r h':=au [a0,a1] Tryz.func141 c c c fun _=>M<|O c<|ak<|M<|J c<|aa<|aR H (gi c c) c fun v7 _ H1=>J c<|V c c (aH _) (fun g2=>wv<|ag c)<|bO H1 (fun k4 H5=>F (D<|bH k4)<|aR H5 (gi (aD c k4) c) c fun v10 _ H6=>p (ap c (bH k4) c)<|ad<|av c H6 (fun k7 H8=>M<|J c<|J c<|aa<|aR H8 (gi c c) c fun v14 _ H9=>O c<|ai<|Y ⟨v14,c,H9⟩) fun k7 H8=>an<|M<|J c<|aa<|fW H8 (rO (vs:=[a1]) c) c fun v16 _ H10=>aa<|fW H10 (fV (vs:=[]) c c) c fun v17 _ H11=>O c<|M<|J c<|J c<|J c<|aa<|Z H11 en_183 fun r21 _ H12=>O c<|ai<|Y ⟨r21,c,H12⟩) fun k4 H5=>W (bG<|bi k4)<|p (aQ c (bi k4) c)<|ad<|kG c c<|M<|J c<|J c<|aa<|aR H5 (gi c c) c fun v14 _ H13=>O c<|ai<|Y ⟨v14,c,H13⟩
end Go.Proofs.YtmggcfijlpldpaaGreatDoor
namespace Go.Proofs.YtmggcfijlpldpaaGreatDoor
open Go Mb
set_option linter.unusedVariables false
def sh_trap_Of (a0:Int) (K:Value→Hp→Prop):Hp→Prop:=br (a0 == 0) ( K Value.nilIface) ( nw nC (bY.C (⟨a0,(-1),(⟨0,0,0,0,0⟩:ah),Value.nilIface⟩:bY)) fun b7=>hpv Tryz.prog (Instr.makeInterface bf (.pointer (some ⟨b7,0,none⟩))) encV fun (v8:Value)=>K v8)
theorem sim_trap_Of (a0:Int) {K:Value→Hp→Prop} {h:Hp} (H:sh_trap_Of a0 K h):Ct Tryz.prog ko #[(.int .i64 a0)] h fun v h'=>∃ r,v = iv r∧K r h':=au [(.int .i64 a0)] Tryz.func142 c c c fun _=>M<|O c<|ak<|M<|J c<|p (bL c c)<|ad<|av c H (fun k1 H2=>M<|O c<|ai<|Y ⟨Value.nilIface,c,H2⟩) fun k1 H2=>an<|M<|J c<|p (bc c<|build_248_0_1 a0 (-1))<|aa<|gZ c c c H2 fun b7 _ H3=>aa<|aR H3 (gt c) c fun v8 _ H4=>O c<|ai<|Y ⟨v8,c,H4⟩
def mG (K:(Ptr × Bool)→Hp→Prop) (b4:Nat) (s2:Bool):Hp→Prop:=br s2 ( K (none,false)) ( ld (b4,0) cP fun x13=>K (x13,true))
def uN (a0:Value) (K:(Ptr × Bool)→Hp→Prop):Hp→Prop:=nw bf [pv none] fun b4=>hpv Tryz.prog (Instr.makeInterface bA (.pointer (some ⟨b4,0,none⟩))) encV fun (v6:Value)=>cl Tryz.prog uz [a0,v6] aA fun r7=>br (!(!r7)) ( ld (b4,0) cP fun x10=>mG K b4 x10.isNone) ( mG K b4 true)
theorem sim_trap_First (a0:Value) {K:(Ptr × Bool)→Hp→Prop} {h:Hp} (H:uN a0 K h):Ct Tryz.prog jQ #[a0] h fun v h'=>∃ r,v = eI r∧K r h':=au [a0] Tryz.func217 c c c fun _=>M<|p (ar c)<|O c<|M<|aa<|to_alloc zero_246 c c H fun b4 _ H1=>ad<|ak<|eu (mG K b4) (fun s2=>[(4,(.pointer (some ⟨b4,0,none⟩))),(12,(.bool s2))]) (fun s2=>[]) (aq<|J c<|aa<|aR H1 (gt c) c fun v6 _ H7=>aa<|Z H7 en_223 fun r7 _ H8=>p (cq c)<|J c<|bO H8 (fun k10 H11=>F (D<|bH k10)<|aU H11 sc_246 c (fun _=>c) c fun x10 H12=>F (D<|bH k10)<|I (cn Tryz.underlying246 c)<|p (ap c (bH k10) c)<|ad<|cG x10.isNone H12 (.cons c<|.cons c<|.nil _) .slnil) fun k10 H11=>W (bG<|bi k10)<|W (bG<|bi k10)<|p (aQ c (bi k10) c)<|ad<|cG true H11 (.cons c<|.cons c<|.nil _) .slnil) fun s2 _ H3=>av c H3 (fun k4 H5=>M<|p (ar c)<|O c<|ai<|bw (bR c (bZ c)<|bZ c) ⟨(none,false),c,H5⟩) fun k4 H5=>an<|M<|aa<|aU H5 sc_246 c (fun _=>c) c fun x13 H6=>p (ar c)<|O c<|ai<|bw (bR c (bZ c)<|bZ c) ⟨(x13,true),c,H6⟩
def sh_trap_Code (a0:Value) (K:Int→Hp→Prop):Hp→Prop:=hpv Tryz.prog (do eqGuard .eql 195 (.tmp 5) (.const Value.nilIface) a0 Value.nilIface; binOp .eql 195 a0 Value.nilIface:Sem Value) aA fun (v6:Bool)=>br v6 ( K 0) ( cl Tryz.prog jQ [a0] eI fun r9=>br r9.2 ( nn r9.1 fun q14=>ld (q14.1,q14.2 + 0) (cI .i64) fun x16=>K x16) ( K 9))
theorem sim_trap_Code (a0:Value) {K:Int→Hp→Prop} {h:Hp} (H:sh_trap_Code a0 K h):Ct Tryz.prog uw #[a0] h fun v h'=>∃ r,v = bg r∧K r h':=au [a0] Tryz.func201 c c c fun _=>M<|O c<|ak<|M<|J c<|aa<|aR H (gi c c) c fun v6 _ H1=>ad<|av c H1 (fun k2 H3=>M<|O c<|ai<|Y ⟨0,c,H3⟩) fun k2 H3=>an<|ak<|M<|J c<|aa<|Z H3 en_217 fun r9 _ H4=>J c<|p (aj c c)<|p (aj c c)<|p (ar c)<|O c<|M<|J c<|ad<|av c H4 (fun k5 H6=>M<|J c<|bD H6 fun q14 e7 H8=>p (aI<|aL c<|ao e7)<|p (ae vR c)<|aa<|aU H8 oB c (fun _=>c) c fun x16 H9=>O c<|ai<|Y ⟨x16,c,H9⟩) fun k5 H6=>an<|M<|O c<|ai<|Y ⟨9,c,H6⟩
def sh_trap_In (a0:Int) (a1:ah) (a2:Value) (K:Value→Hp→Prop):Hp→Prop:=hpv Tryz.prog (do eqGuard .eql 195 (.tmp 7) (.const Value.nilIface) a2 Value.nilIface; binOp .eql 195 a2 Value.nilIface:Sem Value) aA fun (v8:Bool)=>br v8 ( K Value.nilIface) ( cl Tryz.prog uw [a2] bg fun r10=>hpv Tryz.prog (Instr.build nC #[(0,(.int .i64 r10)),(1,(.int .i64 a0)),(2,(.agg (ah.C a1).toArray)),(3,a2)]) R_trap_Trap fun (v14:bY)=>nw nC (bY.C v14) fun b15=>hpv Tryz.prog (Instr.makeInterface bf (.pointer (some ⟨b15,0,none⟩))) encV fun (v16:Value)=>K v16)
theorem sim_trap_In (a0:Int) (a1:ah) (a2:Value) {K:Value→Hp→Prop} {h:Hp} (H:sh_trap_In a0 a1 a2 K h):Ct Tryz.prog n_trap_In #[(.int .i64 a0),(.agg (ah.C a1).toArray),a2] h fun v h'=>∃ r,v = iv r∧K r h':=au [(.int .i64 a0),(.agg (ah.C a1).toArray),a2] Tryz.func177 c c c fun _=>M<|aa<|cC (l:=ah.C a1) c c c fun b4=>O c<|ak<|M<|J c<|aa<|aR H (gi c c) c fun v8 _ H1=>ad<|av c H1 (fun k2 H3=>M<|O c<|ai<|Y ⟨Value.nilIface,c,H3⟩) fun k2 H3=>an<|ak<|bm (n:=9) [bx b4 34 (ah.C a1)] cm c (.cons_cons _ .slnil)<|U 0 c (ag c)<|U 2 c (ag c)<|z_E 3 c (eF (k:=0) ff c c c c)<|U 4 c (ag c)<|G 1 c<|Z H3 en_201 fun r10 _ H4=>⟨.cons_cons _ .slnil,G 5 c<|aR H4 (x_build (vs:=[(.int .i64 r10),(.int .i64 a0),(.agg (ah.C a1).toArray),a2]) c) c fun v14 _ H5=>⟨.cons_cons _ .slnil,G 6 c<|gZ c c c H5 fun b15 _ H6=>⟨.cons_cons _ .slnil,G 7 c<|aR H6 (gt c) c fun v16 _ H7=>⟨.cons_cons _ .slnil,U 8 c (ar c)<|aV (by kernel_rfl)<|ai<|Y ⟨v16,c,H7⟩⟩⟩⟩⟩
def mH (K:Int→Hp→Prop) (Rec3:(Int × Ptr × Bool)→Hp→Prop) (s2:Int × Ptr × Bool):Hp→Prop:=br s2.2.2 ( nn s2.2.1 fun q14=>ld (q14.1,q14.2 + 7) cV fun x16=>cl Tryz.prog jQ [x16] eI fun r17=>Rec3 ((IntKind.i64.wrap (s2.1 + 1)),r17.1,r17.2)) ( K s2.1)
def sh_trap_Depth (a0:Value) (K:Int→Hp→Prop):Hp→Prop:=cl Tryz.prog jQ [a0] eI fun r8=>Lp (mH K) (0,r8.1,r8.2)
theorem sim_trap_Depth (a0:Value) {K:Int→Hp→Prop} {h:Hp} (H:sh_trap_Depth a0 K h):Ct Tryz.prog wT #[a0] h fun v h'=>∃ r,v = eC r∧K r h':=au [a0] Tryz.func224 c c c fun _=>M<|O c<|M<|O c<|ak<|M<|J c<|aa<|Z H en_217 fun r8 _ H1=>J c<|p (aj c c)<|p (aj c c)<|p (ar c)<|O c<|ay<|bE (step:=mH K) (fun s2=>[(3,(.int .i64 s2.1)),(4,(pv s2.2.1)),(5,(.bool s2.2.2))]) (fun s2=>[]) H1 (.cons c<|.cons c<|.cons c<|.nil _) .slnil fun Rec3 s2 _ H4=>ak<|M<|J c<|ad<|av c H4 (fun k5 H6=>an<|ak<|ay<|aq<|J c<|p (bq c c)<|O c<|aq<|J c<|bD H6 fun q14 e7 H8=>p (aI<|aL c<|ao e7)<|p (ae fld_248_3 c)<|aa<|aU H8 sc_195 c (fun _=>c) c fun x16 H9=>aa<|Z H9 en_217 fun r17 _ H10=>J c<|p (aj c c)<|p (aj c c)<|p (ar c)<|O c<|cL ((IntKind.i64.wrap (s2.1 + 1)),r17.1,r17.2) H10 (.cons c<|.cons c<|.cons c<|.nil _) .slnil) fun k5 H6=>bj<|M<|J c<|O c<|ai<|Y ⟨s2.1,c,H6⟩
def ng (a0:Ptr) (K:ByteArray→Hp→Prop):Hp→Prop:=br a0.isNone ( K (⟨#[]⟩:ByteArray)) ( nn a0 fun q7=>ld (q7.1,q7.2 + 0) (cI .i64) fun x9=>cl Tryz.prog th [(.int .i64 x9)] dT fun r10=>hpv Tryz.prog (do eqGuard .add 9 (.const (.string (⟨#[116,114,97,112,32]⟩:ByteArray))) (.tmp 10) (.string (⟨#[116,114,97,112,32]⟩:ByteArray)) (.string r10); binOp .add 9 (.string (⟨#[116,114,97,112,32]⟩:ByteArray)) (.string r10):Sem Value) dT fun (v11:ByteArray)=>ld (q7.1,q7.2 + 7) cV fun x15=>hpv Tryz.prog (do eqGuard .neq 195 (.tmp 15) (.const Value.nilIface) x15 Value.nilIface; binOp .neq 195 x15 Value.nilIface:Sem Value) aA fun (v16:Bool)=>br v16 ( ld (q7.1,q7.2 + 7) cV fun x21=>cln Tryz.prog (callMethod x21 "Error" #[]) dT fun (v22:ByteArray)=>hpv Tryz.prog (do eqGuard .add 9 (.const (.string (⟨#[58,32]⟩:ByteArray))) (.tmp 22) (.string (⟨#[58,32]⟩:ByteArray)) (.string v22); binOp .add 9 (.string (⟨#[58,32]⟩:ByteArray)) (.string v22):Sem Value) dT fun (v23:ByteArray)=>hpv Tryz.prog (do eqGuard .add 9 (.tmp 17) (.tmp 23) (.string v11) (.string v23); binOp .add 9 (.string v11) (.string v23):Sem Value) dT fun (v24:ByteArray)=>K v24) ( K v11))
theorem ru (a0:Ptr) {K:ByteArray→Hp→Prop} {h:Hp} (H:ng a0 K h):Ct Tryz.prog iQ #[(pv a0)] h fun v h'=>∃ r,v = dT r∧K r h':=au [(pv a0)] Tryz.func249 c c c fun _=>M<|O c<|ak<|M<|J c<|p (cn Tryz.underlying246 c)<|ad<|av c H (fun k1 H2=>M<|O c<|ai<|Y ⟨(⟨#[]⟩:ByteArray),c,H2⟩) fun k1 H2=>an<|M<|J c<|bD H2 fun q7 e3 H4=>p (aI<|aL c<|ao e3)<|p (ae vR c)<|aa<|aU H4 oB c (fun _=>c) c fun x9 H5=>aa<|Z H5 en_252 fun r10 _ H6=>aa<|aR H6 (gi c c) c fun v11 _ H7=>O c<|ak<|M<|J (aL c<|ao e3)<|p (aI c)<|p (ae fld_248_3 c)<|aa<|aU H7 sc_195 c (fun _=>c) c fun x15 H8=>aa<|aR H8 (gi c c) c fun v16 _ H9=>ad<|av c H9 (fun k10 H11=>aq<|J c<|J (aL c<|ao e3)<|p (aI c)<|p (ae fld_248_3 c)<|aa<|aU H11 sc_195 c (fun _=>c) c fun x21 H12=>aa<|fW H12 (fV (vs:=[]) c c) c fun v22 _ H13=>aa<|aR H13 (gi c c) c fun v23 _ H14=>aa<|aR H14 (gi c c) c fun v24 _ H15=>O c<|M<|J c<|O c<|ai<|Y ⟨v24,c,H15⟩) fun k10 H11=>an<|M<|J c<|O c<|ai<|Y ⟨v11,c,H11⟩
def sh_trap_Trap_Is (a0:Ptr) (a1:Value) (K:Bool→Hp→Prop):Hp→Prop:=hpv Tryz.prog (Instr.typeAssert a1 gj bf true) eI fun (v9:Ptr × Bool)=>br v9.2 ( br (!a0.isNone) ( br (!v9.1.isNone) ( nn a0 fun q23=>nn v9.1 fun q27=>ld (q23.1,q23.2 + 0) (cI .i64) fun x25=>ld (q27.1,q27.2 + 0) (cI .i64) fun x29=>K (x25 == x29)) ( K false)) ( K false)) ( K false)
theorem sim_trap_Trap_Is (a0:Ptr) (a1:Value) {K:Bool→Hp→Prop} {h:Hp} (H:sh_trap_Trap_Is a0 a1 K h):Ct Tryz.prog tf #[(pv a0),a1] h fun v h'=>∃ r,v = aA r∧K r h':=au [(pv a0),a1] Tryz.func250 c c c fun _=>M<|O c<|M<|J c<|aa<|aR H (fU c) c fun v9 _ H1=>J c<|p (aj c c)<|p (aj c c)<|p (ar c)<|O c<|ak<|bm (n:=21) [] cm c .slnil<|U 0 c (ag c)<|U 1 c (ag c)<|qe H1 (fun k2 H3=>z_n 2 c (D k2) (ve<|ag c)<|z_n 3 c (D k2) (ve<|v_pneT Tryz.underlying246 c)<|U 4 c (aQ c k2 c)<|U 5 c (ag c)<|qe H3 (fun k4 H5=>z_n 6 c (D k4) (ve<|ag c)<|z_n 7 c (D k4) (ve<|v_pneT Tryz.underlying246 c)<|U 8 c (aQ c k4 c)<|U 9 c (ag c)<|qe H5 (fun k6 H7=>z_n 10 c (D k6) (ve<|ag c)<|z_n 14 c (D k6) (ve<|ag c)<|gN H7 fun q23 e8 H9=>z_n 11 c (D k6) (ve<|aI<|aL c<|ao e8)<|z_n 12 c (D k6) (ve<|ae vR c)<|gN H9 fun q27 e10 H11=>z_n 15 c (D k6) (ve<|aI<|aL c<|ao e10)<|z_n 16 c (D k6) (ve<|ae vR c)<|me (i:=13) (fun _ _ _ _ hh=>hh) H11 c (by kernel_rfl) c c c (D k6) oB c (fun _=>c) c fun x25 H12=>me (i:=17) (fun _ _ _ _ hh=>hh) H12 c (by kernel_rfl) c c c (D k6) oB c (fun _=>c) c fun x29 H13=>z_n 18 c (D k6) (ve<|bL c c)<|U 19 c (aQ c k6 c)<|U 20 c (ar c)<|aV (by kernel_rfl)<|ai<|Y ⟨(x25 == x29),c,H13⟩) fun k6 H7=>R 10 c (aS k6)<|R 11 c (aS k6)<|R 12 c (aS k6)<|R 13 c (aS k6)<|R 14 c (aS k6)<|R 15 c (aS k6)<|R 16 c (aS k6)<|R 17 c (aS k6)<|R 18 c (aS k6)<|U 19 c (ap c k6 c)<|U 20 c (ar c)<|aV (by kernel_rfl)<|ai<|Y ⟨false,c,H7⟩) fun k4 H5=>R 6 c (aS k4)<|R 7 c (aS k4)<|U 8 c (ap c k4 c)<|U 9 c (ag c)<|R 10 c c<|R 11 c c<|R 12 c c<|R 13 c c<|R 14 c c<|R 15 c c<|R 16 c c<|R 17 c c<|R 18 c c<|U 19 c (ap c c c)<|U 20 c (ar c)<|aV (by kernel_rfl)<|ai<|Y ⟨false,c,H5⟩) fun k2 H3=>R 2 c (aS k2)<|R 3 c (aS k2)<|U 4 c (ap c k2 c)<|U 5 c (ag c)<|R 6 c c<|R 7 c c<|U 8 c (ap c c c)<|U 9 c (ag c)<|R 10 c c<|R 11 c c<|R 12 c c<|R 13 c c<|R 14 c c<|R 15 c c<|R 16 c c<|R 17 c c<|R 18 c c<|U 19 c (ap c c c)<|U 20 c (ar c)<|aV (by kernel_rfl)<|ai<|Y ⟨false,c,H3⟩
def rv (a0:Ptr) (K:Value→Hp→Prop):Hp→Prop:=br a0.isNone ( K Value.nilIface) ( nn a0 fun q6=>ld (q6.1,q6.2 + 7) cV fun x8=>K x8)
theorem sim_trap_Trap_Unwrap (a0:Ptr) {K:Value→Hp→Prop} {h:Hp} (H:rv a0 K h):Ct Tryz.prog ni #[(pv a0)] h fun v h'=>∃ r,v = iv r∧K r h':=au [(pv a0)] Tryz.func251 c c c fun _=>M<|O c<|ak<|M<|J c<|p (cn Tryz.underlying246 c)<|ad<|av c H (fun k1 H2=>M<|O c<|ai<|Y ⟨Value.nilIface,c,H2⟩) fun k1 H2=>an<|M<|J c<|bD H2 fun q6 e3 H4=>p (aI<|aL c<|ao e3)<|p (ae fld_248_3 c)<|aa<|aU H4 sc_195 c (fun _=>c) c fun x8 H5=>O c<|ai<|Y ⟨x8,c,H5⟩
end Go.Proofs.YtmggcfijlpldpaaGreatDoor
