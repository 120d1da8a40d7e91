/- Part of the proof of: The law ShootRevoke returns true for every input, and leaves its arguments as they were. -/
import Derived.Test.YtemoifebbhoinaaGreatDoorShootRevoke12
set_option linter.all false
set_option maxRecDepth 20000
namespace Go.Proofs.YtemoifebbhoinaaGreatDoor
open Go Mb
namespace KK
def drain (c:Int):Nat→KK→KK
  | 0,k=>k
  | n + 1,k=>if 0 < mail k c then drain c n (post k c).2 else k
def turn1 (k:KK) (c:Int):KK × Bool:=if busy (drain c 5000 k) c = true then ((step (drain c 5000 k) c).2,true) else (drain c 5000 k,false)
def sweep:Nat→Int→KK→Bool→KK × Bool
  | 0,_,k,b=>(k,b)
  | n + 1,c,k,b=>sweep n (c + 1) (turn1 k c).1 ((turn1 k c).2 || b)
def anyBusy (k:KK):Nat→Int→Bool
  | 0,_=>false
  | n + 1,c=>busy k c || anyBusy k n (c + 1)
def settle (cores:Nat):Nat→KK→Bool × KK
  | 0,k=>(!anyBusy k cores 0,k)
  | n + 1,k=>if (sweep cores 0 k false).2 = false then (true,(sweep cores 0 k false).1) else settle cores n (sweep cores 0 k false).1
def lastA (core:Int) (es:List bA):Nat→eM × Bool
  | 0=>(⟨0,0⟩,false)
  | n + 1=>match es[n]? with
    | some e=>if e.fCore = core then (e.fAnswer,decide (e.fEnd > 0)) else lastA core es n
    | none=>(⟨0,0⟩,false)
def run (k:KK) (core env:Int) (c:dc):(eM × Bool) × KK :=
  if (begin_ k core env c).1 = false then ((⟨0,0⟩,false),(begin_ k core env c).2)
  else if (settle 8 1000 (begin_ k core env c).2).1 = false then ((⟨0,0⟩,false),(settle 8 1000 (begin_ k core env c).2).2)
  else (lastA core (settle 8 1000 (begin_ k core env c).2).2.events (settle 8 1000 (begin_ k core env c).2).2.events.length,(settle 8 1000 (begin_ k core env c).2).2)
theorem access_now (k:KK) (c:Int) (x:KC):(access k c x).2.now = k.now:=by unfold access; split; rfl; split <;> rfl
theorem work_now (k:KK) (c:Int) (x:KC):(work k c x).now = k.now:=by
  unfold work
  split
  · exact access_now k c x
  · split
    · rfl
    · split
      · rfl
      · split <;> rfl
theorem step_now {k:KK} (h0:0 ≤ k.now) (h:k.now < 2 ^ 38) (c:Int):k.now ≤ (step k c).2.now∧(step k c).2.now ≤ k.now + 1:=by
  have hw:=wrapN h0 (by omega)
  unfold step
  split
  · exact ⟨Int.le_refl _,by show k.now ≤ k.now + 1; omega⟩
  · split
    · exact ⟨Int.le_refl _,by show k.now ≤ k.now + 1; omega⟩
    · show _ ≤ (work _ _ _).now∧(work _ _ _).now ≤ _
      rw [work_now]
      simp only [tick,hw]; omega
theorem post_now {k:KK} (h0:0 ≤ k.now) (h:k.now < 2 ^ 38) (c:Int):k.now ≤ (post k c).2.now∧(post k c).2.now ≤ k.now + 1:=by
  have hw:=wrapN h0 (by omega)
  unfold post
  split
  · exact ⟨Int.le_refl _,by show k.now ≤ k.now + 1; omega⟩
  · split
    · exact ⟨Int.le_refl _,by show k.now ≤ k.now + 1; omega⟩
    · show _ ≤ (tick k).now∧(tick k).now ≤ _
      simp only [tick,hw]; omega
theorem begin_now {k:KK} (h0:0 ≤ k.now) (h:k.now < 2 ^ 38) (core env:Int) (c:dc):k.now ≤ (begin_ k core env c).2.now∧(begin_ k core env c).2.now ≤ k.now + 1:=by
  have hw:=wrapN h0 (by omega)
  unfold begin_
  split
  · exact ⟨Int.le_refl _,by show k.now ≤ k.now + 1; omega⟩
  · simp only [hw]; omega
end KK
section
variable {x:Ptr} {l:List As}
theorem kern_n0 {k:KK} {h:Hp} (s:aG (cF x k::l) h):0 ≤ k.now∧k.events.length ≤ k.now:=by
  obtain ⟨z,_,_,ok,_⟩:=qt s
  exact ⟨ok.n0,ok.evn⟩
theorem settle_l3 {Rec:Bool × Int→Hp→Prop} {k:KK} {b:Bool} {c:Int} {h:Hp} (h0:0 ≤ c) (hc:c < 100) (hn:k.now + 5001 < 2 ^ 37) (st:aG (cF x k::l) h)
    (kk:∀ h',(KK.turn1 k c).1.now ≤ k.now + 5001→aG (cF x (KK.turn1 k c).1::l) h'→Rec ((KK.turn1 k c).2 || b,c + 1) h'):Lp (gA x Rec (b,c)) 0 h:=by
  have hj:∀ d h',KK.drain c 5000 k = d→d.now ≤ k.now + 5000→aG (cF x d::l) h'→fe x Rec (b,c) () h':=by
    intro d h' e hd s1
    unfold fe
    refine bM (i:=0) (ox x d c) rfl s1 fun r h2 hr s2=>?_
    refine bM (i:=0) (ox x d c) rfl s2 fun r' h3 hr' s3=>?_
    subst hr; subst hr'
    have hw:IntKind.i64.wrap (c + 1) = c + 1:=bR (by omega) (by omega)
    simp only [hw]
    refine ba (fun k2=>?_) (fun k2=>?_)
    · refine bM (i:=0) (sp_kern_Step x d c (by omega)) rfl s3 fun r h4 hr s4=>?_
      have e2:KK.turn1 k c = ((KK.step d c).2,true):=by unfold KK.turn1; rw [e,if_pos k2]
      have n1:=kern_n0 s3
      have n2:=KK.step_now n1.1 (by omega) c
      rw [e2] at kk
      rw [k2]
      exact kk h4 (by show (KK.step d c).2.now ≤ _; omega) s4
    · have e2:KK.turn1 k c = (d,false):=by unfold KK.turn1; rw [e,if_neg (by rw [k2]; exact Bool.false_ne_true)]
      rw [e2] at kk
      rw [k2]
      exact kk h3 (by show d.now ≤ _; omega) s3
  refine Lp.intro (fun (m:Int) h=>∃ (n:Nat) (d:KK),m = 5000 - n∧n ≤ 5000∧KK.drain c n d = KK.drain c 5000 k∧d.now ≤ k.now + (5000 - n)∧aG (cF x d::l) h) (fun m _=>(5000 - m).toNat) ⟨5000,k,rfl,Nat.le_refl _,rfl,by omega,st⟩ ?_
  rintro m h1 ⟨n,d,rfl,hm,e,hd,s1⟩
  unfold gA
  refine ba (fun k1=>?_) (fun k1=>?_)
  · have hlt:0 < n:=by have:=of_decide_eq_true k1; omega
    obtain ⟨n,rfl⟩:∃ j,n = j + 1:=⟨n - 1,by omega⟩
    refine bM (i:=0) (sp_kern_Mail x d c) rfl s1 fun r h2 hr s2=>?_
    subst hr
    refine ba (fun k2=>?_) (fun k2=>?_)
    · have k2':0 < KK.mail d c:=of_decide_eq_true k2
      refine bM (i:=0) (sp_kern_Post x d c (by omega)) rfl s2 fun r h3 hr s3=>?_
      have n1:=kern_n0 s2
      have n2:=KK.post_now n1.1 (by omega) c
      have hw:IntKind.i64.wrap ((5000:Int) - ((n + 1:Nat):Int) + 1) = 5000 - (n:Int):=by rw [bR (by omega) (by omega)]; omega
      rw [hw]
      refine ⟨⟨n,_,rfl,by omega,?_,by omega,s3⟩,by show (5000 - (5000 - (n:Int))).toNat < (5000 - (5000 - ((n + 1:Nat):Int))).toNat; omega⟩
      rw [← e]
      exact (if_pos k2').symm
    · have k2':¬ 0 < KK.mail d c:=of_decide_eq_false k2
      exact hj d h2 (by rw [← e]; exact if_neg k2') (by omega) s2
  · have hz:n = 0:=by have:=of_decide_eq_false k1; omega
    subst hz
    exact hj d h1 e.symm (by omega) s1
theorem settle_l2 {Rec2:Int→Hp→Prop} {K:Bool→Hp→Prop} {k:KK} {m:Int} {cores:Nat} {h:Hp} (hc:cores ≤ 8) (hn:k.now + cores * 5001 < 2 ^ 37) (st:aG (cF x k::l) h)
    (kt:∀ h',(KK.sweep cores 0 k false).2 = false→(KK.sweep cores 0 k false).1.now ≤ k.now + cores * 5001→aG (cF x (KK.sweep cores 0 k false).1::l) h'→K true h')
    (kf:∀ h',(KK.sweep cores 0 k false).2 = true→(KK.sweep cores 0 k false).1.now ≤ k.now + cores * 5001→aG (cF x (KK.sweep cores 0 k false).1::l) h'→Rec2 (IntKind.i64.wrap (m + 1)) h') :
    Lp (gB x cores K Rec2 m) (false,0) h:=by
  refine Lp.intro (fun (s:Bool × Int) h=>∃ (n:Nat) (d:KK),s.2 = (cores:Int) - n∧n ≤ cores∧KK.sweep n s.2 d s.1 = KK.sweep cores 0 k false∧d.now ≤ k.now + (cores - n) * 5001∧aG (cF x d::l) h) (fun s _=>cores - s.2.toNat)
    ⟨cores,k,by simp,Nat.le_refl _,rfl,by simp,st⟩ ?_
  rintro ⟨b,c⟩ h1 ⟨n,d,e0,hm,e,hd,s1⟩
  simp only at e0 e
  subst e0
  unfold gB
  refine ba (fun k1=>?_) (fun k1=>?_)
  · have hlt:0 < n:=by have:=of_decide_eq_true k1; simp only at this; omega
    obtain ⟨n,rfl⟩:∃ j,n = j + 1:=⟨n - 1,by omega⟩
    have hq:(((cores:Int) - ((n + 1:Nat):Int)) * 5001) + 5001 = ((cores:Int) - n) * 5001:=by omega
    have hq2:((cores:Int) - n) * 5001 ≤ cores * 5001:=by omega
    refine settle_l3 (by omega) (by omega) (by omega) s1 fun h' hnow s2=>?_
    have hw:(cores:Int) - ((n + 1:Nat):Int) + 1 = (cores:Int) - n:=by omega
    refine ⟨⟨n,_,hw,by omega,?_,by omega,s2⟩,?_⟩
    · rw [← e]; rfl
    · show cores - ((cores:Int) - ((n + 1:Nat):Int) + 1).toNat < cores - ((cores:Int) - ((n + 1:Nat):Int)).toNat
      omega
  · have hz:n = 0:=by have:=of_decide_eq_false k1; simp only at this; omega
    subst hz
    have e':(d,b) = KK.sweep cores 0 k false:=e
    refine ba (fun k2=>?_) (fun k2=>?_)
    · have hb:b = false:=by simpa using k2
      rw [← e'] at kt
      exact kt h1 hb (by show d.now ≤ _; simpa using hd) s1
    · have hb:b = true:=by simpa using k2
      rw [← e'] at kf
      exact kf h1 hb (by show d.now ≤ _; simpa using hd) s1
theorem settle_l4 {K:Bool→Hp→Prop} {k:KK} {cores:Nat} {h:Hp} (hc:cores ≤ 8) (st:aG (cF x k::l) h)
    (kk:∀ h',aG (cF x k::l) h'→K (!KK.anyBusy k cores 0) h'):Lp (gy x cores K) 0 h:=by
  refine Lp.intro (fun (c:Int) h=>∃ n:Nat,c = (cores:Int) - n∧n ≤ cores∧KK.anyBusy k n c = KK.anyBusy k cores 0∧aG (cF x k::l) h) (fun s _=>cores - s.toNat) ⟨cores,by simp,Nat.le_refl _,rfl,st⟩ ?_
  rintro c h1 ⟨n,rfl,hm,e,s1⟩
  unfold gy
  refine ba (fun k1=>?_) (fun k1=>?_)
  · have hlt:0 < n:=by have:=of_decide_eq_true k1; omega
    obtain ⟨n,rfl⟩:∃ j,n = j + 1:=⟨n - 1,by omega⟩
    refine bM (i:=0) (ox x k _) rfl s1 fun r h2 hr s2=>?_
    subst hr
    have e':(KK.busy k ((cores:Int) - ((n + 1:Nat):Int)) || KK.anyBusy k n ((cores:Int) - ((n + 1:Nat):Int) + 1)) = KK.anyBusy k cores 0:=e
    refine ba (fun k2=>?_) (fun k2=>?_)
    · rw [k2,Bool.true_or] at e'
      rw [← e'] at kk
      exact kk h2 s2
    · rw [k2,Bool.false_or] at e'
      have hw:IntKind.i64.wrap ((cores:Int) - ((n + 1:Nat):Int) + 1) = (cores:Int) - ((n + 1:Nat):Int) + 1:=bR (by omega) (by omega)
      rw [hw]
      refine ⟨⟨n,by omega,by omega,e',s2⟩,by omega⟩
  · have hz:n = 0:=by have:=of_decide_eq_false k1; omega
    subst hz
    have e':false = KK.anyBusy k cores 0:=e
    rw [← e'] at kk
    exact kk h1 s1
end
theorem sp_Settle (x:Ptr) (k:KK) (cores most:Nat) (hc:cores ≤ 8) (hm:most ≤ 1000) (hn:k.now < 2 ^ 36):Sp Tryz.prog gY [pv x,.int .i64 cores,.int .i64 most] aC [cF x k]
    (fun r=>pa_ (r = (KK.settle cores most k).1∧(KK.settle cores most k).2.now ≤ k.now + most * 40008) [cF x (KK.settle cores most k).2]):=by
  intro h st
  refine uO _ _ _ ?_
  unfold nN
  refine Lp.intro (fun (m:Int) h=>∃ (n:Nat) (d:KK),m = (most:Int) - n∧n ≤ most∧KK.settle cores n d = KK.settle cores most k∧d.now ≤ k.now + (most - n) * 40008∧aG [cF x d] h) (fun m _=>most - m.toNat)
    ⟨most,k,by simp,Nat.le_refl _,rfl,by simp,st⟩ ?_
  rintro m h1 ⟨n,d,rfl,hnm,e,hd,s1⟩
  unfold jG
  have hq:((most:Int) - n) * 40008 ≤ 1000 * 40008:=by omega
  have hq2:(cores:Int) * 5001 ≤ 40008:=by omega
  refine ba (fun k1=>?_) (fun k1=>?_)
  · have hlt:0 < n:=by have:=of_decide_eq_true k1; omega
    obtain ⟨n,rfl⟩:∃ j,n = j + 1:=⟨n - 1,by omega⟩
    have e':(if (KK.sweep cores 0 d false).2 = false then (true,(KK.sweep cores 0 d false).1) else KK.settle cores n (KK.sweep cores 0 d false).1) = KK.settle cores most k:=e
    refine settle_l2 hc (by omega) s1 (fun h' hb hnow s2=>?_) (fun h' hb hnow s2=>?_)
    · rw [if_pos hb] at e'
      rw [← e']
      exact aX ⟨rfl,by show (KK.sweep cores 0 d false).1.now ≤ _; omega⟩ s2
    · rw [if_neg (by rw [hb]; decide)] at e'
      have hw:IntKind.i64.wrap ((most:Int) - ((n + 1:Nat):Int) + 1) = (most:Int) - n:=by rw [bR (by omega) (by omega)]; omega
      rw [hw]
      exact ⟨⟨n,_,rfl,by omega,e',by omega,s2⟩,by omega⟩
  · have hz:n = 0:=by have:=of_decide_eq_false k1; omega
    subst hz
    have e':(!KK.anyBusy d cores 0,d) = KK.settle cores most k:=e
    refine settle_l4 hc s1 fun h' s2=>?_
    rw [← e']
    exact aX ⟨rfl,by show d.now ≤ _; simpa using hd⟩ s2
theorem run_yes {k:KK} {core env:Int} {c:dc} {d e:KK} (h1:(KK.begin_ k core env c) = (true,d)) (h2:KK.settle 8 1000 d = (true,e)):KK.run k core env c = (KK.lastA core e.events e.events.length,e):=by
  unfold KK.run
  rw [h1]
  dsimp only
  rw [if_neg (by decide),h2]
  dsimp only
  rw [if_neg (by decide)]
theorem run_l1 {s:Sl} {es:List bA} {l:List As} {core:Int} {K:eM × Bool→Hp→Prop} {h:Hp} (hb:es.length < 2 ^ 38) (st:aG (vE s es::l) h)
    (kk:∀ h',aG (vE s es::l) h'→K (KK.lastA core es es.length) h'):Lp (gj core K s) (IntKind.i64.wrap ((s.len:Int) - 1),⟨0,0⟩) h:=by
  have hl:=(cj (j:=0) st rfl).1
  have hw0:IntKind.i64.wrap ((s.len:Int) - 1) = (es.length:Int) - 1:=by rw [hl,bR (by omega) (by omega)]
  rw [hw0]
  refine Lp.intro (fun (z:Int × eM) h=>∃ n:Nat,z = ((n:Int) - 1,⟨0,0⟩)∧n ≤ es.length∧KK.lastA core es n = KK.lastA core es es.length∧aG (vE s es::l) h) (fun z _=>(z.1 + 1).toNat) ⟨_,rfl,Nat.le_refl _,rfl,st⟩ ?_
  rintro _ h1 ⟨n,rfl,hn,e,s1⟩
  unfold gj
  refine ba (fun k1=>?_) (fun k1=>?_)
  · have hlt:0 < n:=by have:=of_decide_eq_true k1; simp only at this; omega
    obtain ⟨n,rfl⟩:∃ j,n = j + 1:=⟨n - 1,by omega⟩
    have hn':n < es.length:=by omega
    have hi:((n + 1:Nat):Int) - 1 = (n:Int):=by omega
    simp only [hi]
    have e':(match es[n]? with
      | some e=>if e.fCore = core then (e.fAnswer,decide (e.fEnd > 0)) else KK.lastA core es n
      | none=>(⟨0,0⟩,false)) = KK.lastA core es es.length:=e
    rw [aH hn'] at e'
    simp only at e'
    refine dC s1 (j:=0) rfl (by omega) (by show (n:Int) < _; omega) fun q hq=>?_
    have lk:∀ {σ:Type} {enc:σ→List Value} {K:σ→Hp→Prop} (y:σ) (o:Nat),(∀ i v,(enc y)[i]? = some v→(es[n].C)[o + i]? = some v)→K y h1→ld (q.1,q.2 + Int.toNat (n:Int) * 16 + o) enc K h1:=by
      intro σ enc K y o he k
      exact eE (j:=0) (i:=n) (k:=o) y nB s1 rfl hq (by simp) (aH hn') he k
    refine lk es[n].fCore 0 (fun i v hv=>?_) ?_
    · rcases i with _ | i <;> first | exact hv | simp [cI] at hv
    refine ba (fun k2=>?_) (fun k2=>?_)
    · have k2':es[n].fCore = core:=by simpa using k2
      rw [if_pos k2'] at e'
      have hA:∀ i v,(ab.C es[n].fAnswer)[i]? = some v→(es[n].C)[10 + i]? = some v:=by
        intro i v hv
        rcases i with _ | _ | i <;> first | exact hv | simp [ab.C] at hv
      have hE:∀ i v,((cI .i64) es[n].fEnd)[i]? = some v→(es[n].C)[9 + i]? = some v:=by
        intro i v hv
        rcases i with _ | i <;> first | exact hv | simp [cI] at hv
      refine ⟨lk _ 10 hA (lk _ 9 hE ?_),lk _ 9 hE (lk _ 10 hA ?_)⟩
      · rw [e']; exact kk h1 s1
      · rw [e']; exact kk h1 s1
    · have k2':¬ es[n].fCore = core:=by simpa using k2
      rw [if_neg k2'] at e'
      rw [bR (by omega) (by omega)]
      exact ⟨⟨n,rfl,by omega,e',s1⟩,by show ((n:Int) - 1 + 1).toNat < ((n:Int) + 1).toNat; omega⟩
  · have hz:n = 0:=by have:=of_decide_eq_false k1; simp only at this; omega
    subst hz
    have e':((⟨0,0⟩,false):eM × Bool) = KK.lastA core es es.length:=e
    rw [← e'] at kk
    exact kk h1 s1
theorem run_no {k:KK} {core env:Int} {c:dc} {d e:KK} (h1:(KK.begin_ k core env c) = (true,d)) (h2:KK.settle 8 1000 d = (false,e)):KK.run k core env c = ((⟨0,0⟩,false),e):=by
  unfold KK.run
  rw [h1]
  dsimp only
  rw [if_neg (by decide),h2]
  dsimp only
  rw [if_pos rfl]
theorem run_tail (x:Ptr) (k:KK) (core env:Int) (c:dc) (d:KK) (h1:KK.begin_ k core env c = (true,d)) (hn:d.now ≤ k.now + 1) (hk:k.now < 2 ^ 35) {h:Hp} (s1:aG [cF x d] h) :
    (cl Tryz.prog gY [(pv x),(.int .i64 8),(.int .i64 1000)] aC fun r20 =>
      br (!r20) ((fun r h'=>pa_ (r = (KK.run k core env c).1∧(KK.run k core env c).2.now ≤ k.now + 40008001) [cF x (KK.run k core env c).2] h') (⟨0,0⟩,false)) (
      cl Tryz.prog fU [(pv x)] eA fun r24 =>
      Lp (gj core (fun r h'=>pa_ (r = (KK.run k core env c).1∧(KK.run k core env c).2.now ≤ k.now + 40008001) [cF x (KK.run k core env c).2] h') r24) ((IntKind.i64.wrap ((r24.len:Int) - 1)),(⟨0,0⟩:ab)))) h:=by
  have c8:=sp_Settle x d 8 1000 (Nat.le_refl _) (Nat.le_refl _) (by omega)
  generalize hz:KK.settle 8 1000 d = z at c8
  obtain ⟨b,e⟩:=z
  refine bM (i:=0) c8 rfl s1 fun r h2 hr s2=>?_
  obtain ⟨hr,hs⟩:=hr
  have hs':e.now ≤ d.now + 40008000:=hs
  have n2:=kern_n0 s2
  have hr':r = b:=hr
  rw [hr']
  cases b
  · rw [run_no h1 hz]
    exact dG rfl (aX ⟨rfl,by show e.now ≤ _; omega⟩ s2)
  · refine di rfl ?_
    refine uY (i:=0) (sI x _ (by show e.now < _; omega)) rfl s2 fun s h3 s3=>?_
    refine run_l1 (by show e.events.length < _; have:(e.events.length:Int) ≤ e.now:=n2.2; omega) s3 fun h4 s4=>?_
    rw [run_yes h1 hz]
    exact aX ⟨rfl,by show e.now ≤ _; omega⟩ (cc (l:=[_]) s4)
theorem sL (x:Ptr) (k:KK) (core env:Int) (c:dc) (hn:k.now < 2 ^ 35):Sp Tryz.prog cm [pv x,.int .i64 core,.int .i64 env,.agg c.C.toArray] aZ [cF x k]
    (fun r=>pa_ (r = (KK.run k core env c).1∧(KK.run k core env c).2.now ≤ k.now + 40008001) [cF x (KK.run k core env c).2]):=by
  intro h st
  have n0:=kern_n0 st
  have nb:=KK.begin_now n0.1 (by omega) core env c
  refine sim_messuagelaw16_Run _ _ _ _ ?_
  unfold qO
  refine bM (i:=0) (sp_kern_Begin x k core env c (by omega)) rfl st fun r h1 hr s1=>?_
  subst hr
  refine ba (fun k1=>?_) (fun k1=>?_)
  · have k1':(KK.begin_ k core env c).1 = false:=by simpa using k1
    have e:KK.run k core env c = ((⟨0,0⟩,false),(KK.begin_ k core env c).2):=if_pos k1'
    rw [e]
    exact aX ⟨rfl,by show (KK.begin_ k core env c).2.now ≤ _; omega⟩ s1
  · have k1':(KK.begin_ k core env c).1 = true:=by simpa using k1
    exact run_tail x k core env c (KK.begin_ k core env c).2 (by rw [← k1']) (by omega) hn s1
end Go.Proofs.YtemoifebbhoinaaGreatDoor
namespace Go.Proofs.YtemoifebbhoinaaGreatDoor
open Go Mb
set_option linter.unusedVariables false
def errors_as_l2 (a1:Value) (a2:aK) (a3:Value) (K:Bool→Hp→Prop) (v48:Sl) (Rec25:Int→Hp→Prop) (s24:Int):Hp→Prop:=br (decide (s24 < (v48.len:Int))) ( ix v48 s24 fun q52=>ld (q52.1,q52.2 + Int.toNat s24 * 1) cV fun x53=>hpv Tryz.prog (do eqGuard .eql 199 (.tmp 54) (.const Value.nilIface) x53 Value.nilIface; binOp .eql 199 x53 Value.nilIface:Sem Value) aC fun (v55:Bool)=>br v55 ( Rec25 (IntKind.i64.wrap (s24 + 1))) ( cl Tryz.prog uv [x53,a1,(.agg (aK.C a2).toArray),a3] aC fun r60=>br r60 ( K true) ( Rec25 (IntKind.i64.wrap (s24 + 1))))) ( K false)
def xq (a1:Value) (a2:aK) (a3:Value) (K:Bool→Hp→Prop) (Rec2:Value→Hp→Prop) (s1:Value) (s11:Unit):Hp→Prop:=hpv Tryz.prog (Instr.typeAssert s1 gx jh true) gr fun (v37:Value × Bool)=>br v37.2 ( cln Tryz.prog (callMethod v37.1 "Unwrap" #[]) encV fun (v41:Value)=>hpv Tryz.prog (do eqGuard .eql 199 (.tmp 42) (.const Value.nilIface) v41 Value.nilIface; binOp .eql 199 v41 Value.nilIface:Sem Value) aC fun (v43:Bool)=>br v43 ( K false) ( Rec2 v41)) ( hpv Tryz.prog (Instr.typeAssert s1 gx iB true) fZ fun (v44:Value × Bool)=>br v44.2 ( cln Tryz.prog (callMethod v44.1 "Unwrap" #[]) R_Serror fun (v48:Sl)=>Lp (errors_as_l2 a1 a2 a3 K v48) 0) ( K false))
def xp (a1:Value) (a2:aK) (a3:Value) (K:Bool→Hp→Prop) (Rec2:Value→Hp→Prop) (s1:Value):Hp→Prop:=cln Tryz.prog (callFunc gi #[s1]) encV fun (v17:Value)=>cln Tryz.prog (callMethod v17 "AssignableTo" #[a3]) aC fun (v19:Bool)=>br v19 ( cln Tryz.prog (callFunc fw #[(.agg (aK.C a2).toArray)]) fE fun (v21:aK)=>cln Tryz.prog (callFunc cY #[s1]) fE fun (v23:aK)=>cln Tryz.prog (callFunc fB #[(.agg (aK.C v21).toArray),(.agg (aK.C v23).toArray)]) R_ fun (v24:Unit)=>K true) ( hpv Tryz.prog (Instr.typeAssert s1 gx qC true) nD fun (v27:Value × Bool)=>br v27.2 ( cln Tryz.prog (callMethod v27.1 "As" #[a1]) aC fun (v34:Bool)=>br v34 ( K true) ( xq a1 a2 a3 K Rec2 s1 ())) ( xq a1 a2 a3 K Rec2 s1 ()))
def sh_errors_as (a0:Value) (a1:Value) (a2:aK) (a3:Value) (K:Bool→Hp→Prop):Hp→Prop:=Lp (xp a1 a2 a3 K) a0
theorem sim_errors_as (a0:Value) (a1:Value) (a2:aK) (a3:Value) {K:Bool→Hp→Prop} {h:Hp} (H:sh_errors_as a0 a1 a2 a3 K h):Ct Tryz.prog uv #[a0,a1,(.agg (aK.C a2).toArray),a3] h fun v h'=>∃ r,v = aC r∧K r h':=aw [a0,a1,(.agg (aK.C a2).toArray),a3] Tryz.func232 c c c fun _=>M<|aa<|cQ (l:=aK.C a2) c c c fun b6=>O c<|ay<|bE (step:=xp a1 a2 a3 K) (fun s1=>[(0,s1),(1,a1),(3,a3),(6,(.pointer (some ⟨b6,0,none⟩)))]) (fun s1=>[bx b6 296 (aK.C a2)]) H (.cons c<|.cons c<|.cons c<|.cons c<|.nil _) (.cons_cons _ .slnil) fun Rec2 s1 _ H3=>ay<|al<|M<|J c<|aa<|gg H3 (rP (vs:=[s1]) c) c fun v17 _ H4=>J c<|aa<|gg H4 (gf (vs:=[a3]) c c) c fun v19 _ H5=>ad<|av c H5 (fun k6 H7=>M<|bi (bC (k:=0) ag_296 c c c c) c<|aa<|gg H7 (rP (vs:=[(.agg (aK.C a2).toArray)]) c) c fun v21 _ H8=>J c<|aa<|gg H8 (rP (vs:=[s1]) c) c fun v23 _ H9=>aa<|gg H9 (rP (vs:=[(.agg (aK.C v21).toArray),(.agg (aK.C v23).toArray)]) c) c fun v24 _ H10=>ad<|M<|O c<|aj<|Y ⟨true,c,H10⟩) fun k6 H7=>ao<|eo (xq a1 a2 a3 K Rec2 s1) (fun s11=>[(0,s1),(1,a1),(3,a3),(6,(.pointer (some ⟨b6,0,none⟩)))]) (fun s11=>[bx b6 296 (aK.C a2)]) (M<|J c<|aa<|aS H7 (gb c) c fun v27 _ H39=>J c<|p (ak c c)<|p (ak c c)<|p (au c)<|O c<|M<|J c<|J c<|V c c (az _) (fun g40=>wv<|ai c)<|V c c (az _) (fun g41=>wv<|ai c)<|bU H39 (fun k43 H44=>F (D k43)<|gg H44 (gf (vs:=[a1]) (aD c k43)<|aT (aD c k43) bQ) c fun v34 _ H45=>p (aU c k43 c)<|ad<|av c H45 (fun k46 H47=>M<|O c<|aj<|Y ⟨true,c,H47⟩) fun k46 H47=>ao<|cG () H47 (.cons c<|.cons c<|.cons c<|.cons c<|.nil _)<|.cons_cons _ .slnil) fun k43 H44=>W (aR k43)<|p (aq c k43 c)<|ad<|ev_no c c<|ao<|cG () H44 (.cons c<|.cons c<|.cons c<|.cons c<|.nil _)<|.cons_cons _ .slnil) fun s11 _ H12=>M<|J c<|ad<|ay<|M<|aa<|aS H12 (gb c) c fun v37 _ H13=>p (ak c c)<|p (ak c c)<|ad<|av c H13 (fun k14 H15=>M<|O c<|M<|J c<|aa<|gg H15 (gf (vs:=[]) c c) c fun v41 _ H16=>O c<|M<|J c<|aa<|aS H16 (gu c c) c fun v43 _ H17=>ad<|av c H17 (fun k18 H19=>M<|O c<|aj<|Y ⟨false,c,H19⟩) fun k18 H19=>ao<|cR v41 H19 (.cons c<|.cons c<|.cons c<|.cons c<|.nil _)<|.cons_cons _ .slnil) fun k14 H15=>M<|aa<|aS H15 (gb c) c fun v44 _ H20=>p (ak c c)<|p (ak c c)<|ad<|av c H20 (fun k21 H22=>M<|O c<|al<|M<|J c<|aa<|gg H22 (gf (vs:=[]) c c) c fun v48 _ H23=>p (dA c Tryz.underlying280 c)<|J c<|ad<|ay<|bE (step:=errors_as_l2 a1 a2 a3 K v48) (fun s24=>[(1,a1),(3,a3),(6,(.pointer (some ⟨b6,0,none⟩))),(48,(sv v48)),(49,(.int .i64 (v48.len:Int))),(50,(.int .i64 s24))]) (fun s24=>[bx b6 296 (aK.C a2)]) H23 (.cons c<|.cons c<|.cons c<|.cons c<|.cons c<|.cons c<|.nil _) (.cons_cons _ .slnil) fun Rec25 s24 _ H26=>M<|p (cC c c)<|ad<|al<|av c H26 (fun k27 H28=>ao<|al<|ay<|M<|ct H28 fun q52 e29 h30 H31=>p (bq slc_280 (aN c<|bc e29) c h30)<|aa<|aW H31 sc_199 c (fun _=>c) c fun x53 H32=>O c<|al<|M<|J c<|aa<|aS H32 (gu c c) c fun v55 _ H33=>ad<|av c H33 (fun k34 H35=>bj<|ar<|p (bw c c)<|J c<|ad<|cR (IntKind.i64.wrap (s24 + 1)) H35 (.cons c<|.cons c<|.cons c<|.cons c<|.cons c<|.cons c<|.nil _)<|.cons_cons _ .slnil) fun k34 H35=>ao<|M<|J c<|J c<|bi (bC (k:=0) ag_296 c c c c) c<|J c<|aa<|Z H35 en_232 fun r60 _ H36=>ad<|av c H36 (fun k37 H38=>M<|O c<|aj<|Y ⟨true,c,H38⟩) fun k37 H38=>ao<|ar<|p (bw c c)<|J c<|ad<|cR (IntKind.i64.wrap (s24 + 1)) H38 (.cons c<|.cons c<|.cons c<|.cons c<|.cons c<|.cons c<|.nil _)<|.cons_cons _ .slnil) fun k27 H28=>bj<|M<|O c<|aj<|Y ⟨false,c,H28⟩) fun k21 H22=>M<|O c<|M<|O c<|aj<|Y ⟨false,c,H22⟩
def sm (a0:Value) (a1:Value) (K:Bool→Hp→Prop) (v14:aK) (v26:Value) (s11:Unit):Hp→Prop:=cl Tryz.prog uv [a0,a1,(.agg (aK.C v14).toArray),v26] aC fun r41=>K r41
def xr (a0:Value) (a1:Value) (K:Bool→Hp→Prop) (v14:aK) (v16:Value) (s8:Unit):Hp→Prop:=cln Tryz.prog (callMethod v16 "Elem" #[]) encV fun (v26:Value)=>cln Tryz.prog (callMethod v26 "Kind" #[]) R_abi_Kind fun (v28:Int)=>br (v28 != 20) ( ld (0,0) cV fun x32=>cln Tryz.prog (callMethod v26 "Implements" #[x32]) aC fun (v33:Bool)=>br (!v33) ( hpv Tryz.prog (Instr.makeInterface va (.string str_6ae768b9)) encV fun (v36:Value)=>nope) ( sm a0 a1 K v14 v26 ())) ( sm a0 a1 K v14 v26 ())
def xt (a0:Value) (a1:Value) (K:Bool→Hp→Prop) (s4:Unit):Hp→Prop:=cln Tryz.prog (callFunc cY #[a1]) fE fun (v14:aK)=>cln Tryz.prog (callFunc iA #[(.agg (aK.C v14).toArray)]) encV fun (v16:Value)=>cln Tryz.prog (callMethod v16 "Kind" #[]) R_abi_Kind fun (v18:Int)=>br (!(v18 != 22)) ( cln Tryz.prog (callFunc eX #[(.agg (aK.C v14).toArray)]) aC fun (v22:Bool)=>br v22 ( hpv Tryz.prog (Instr.makeInterface va (.string str_ae9b7a08)) encV fun (v24:Value)=>nope) ( xr a0 a1 K v14 v16 ())) ( hpv Tryz.prog (Instr.makeInterface va (.string str_ae9b7a08)) encV fun (v24:Value)=>nope)
def wP (a0:Value) (a1:Value) (K:Bool→Hp→Prop):Hp→Prop:=hpv Tryz.prog (do eqGuard .eql 199 (.tmp 8) (.const Value.nilIface) a0 Value.nilIface; binOp .eql 199 a0 Value.nilIface:Sem Value) aC fun (v9:Bool)=>br v9 ( K false) ( hpv Tryz.prog (do eqGuard .eql 20 (.tmp 10) (.const Value.nilIface) a1 Value.nilIface; binOp .eql 20 a1 Value.nilIface:Sem Value) aC fun (v11:Bool)=>br v11 ( hpv Tryz.prog (Instr.makeInterface va (.string str_53947bae)) encV fun (v12:Value)=>nope) ( xt a0 a1 K ()))
theorem sim_errors_As (a0:Value) (a1:Value) {K:Bool→Hp→Prop} {h:Hp} (H:wP a0 a1 K h):Ct Tryz.prog uw #[a0,a1] h fun v h'=>∃ r,v = aC r∧K r h':=aw [a0,a1] Tryz.func227 c c c fun _=>M<|O c<|al<|M<|J c<|aa<|aS H (gu c c) c fun v9 _ H1=>ad<|av c H1 (fun k2 H3=>M<|O c<|aj<|Y ⟨false,c,H3⟩) fun k2 H3=>ao<|eo (xt a0 a1 K) (fun s4=>[(0,a0),(1,a1)]) (fun s4=>[]) (M<|J c<|aa<|aS H3 (gu c c) c fun v11 _ H34=>ad<|av c H34 (fun k35 H36=>ar<|aa<|aS H36 (gE c) c fun v12 _ H37=>evlNo H37) fun k35 H36=>ao<|cG () H36 (.cons c<|.cons c<|.nil _) .slnil) fun s4 _ H5=>M<|J c<|aa<|gg H5 (rP (vs:=[a1]) c) c fun v14 _ H6=>aa<|aI (l:=aK.C (⟨none,none,0⟩:aK)) zero_296 c c fun b5=>aa<|aO (k:=0) (vs:=aK.C v14) inf_296 c c c c c c c<|ad<|M<|bi (bC (k:=0) ag_296 c c c c) c<|aa<|gg H6 (rP (vs:=[(.agg (aK.C v14).toArray)]) c) c fun v16 _ H7=>O c<|eo (xr a0 a1 K v14 v16) (fun s8=>[(0,a0),(1,a1),(5,(.pointer (some ⟨b5,0,none⟩))),(6,v16)]) (fun s8=>[bx b5 296 (aK.C v14)]) (M<|J c<|aa<|gg H7 (gf (vs:=[]) c c) c fun v18 _ H24=>p (nh c c)<|J c<|V c c (aJ _) (fun g25=>cv<|bC (k:=0) ag_296 c c c c)<|bU H24 (fun k27 H28=>F (D<|ch k27)<|gg H28 (rP (vs:=[(.agg (aK.C v14).toArray)])<|aT (aD c k27) bQ) c fun v22 _ H29=>p (aq c (ch k27) c)<|ad<|av c H29 (fun k30 H31=>ar<|aa<|aS H31 (gE c) c fun v24 _ H32=>evlNo H32) fun k30 H31=>ao<|cG () H31 (.cons c<|.cons c<|.cons c<|.cons c<|.nil _)<|.cons_cons _ .slnil) fun k27 H28=>W (cd<|bJ k27)<|p (aU c (bJ k27) c)<|ad<|mB c c<|ar<|aa<|aS H28 (gE c) c fun v24 _ H33=>evlNo H33) fun s8 _ H9=>M<|J c<|aa<|gg H9 (gf (vs:=[]) c c) c fun v26 _ H10=>O c<|eo (sm a0 a1 K v14 v26) (fun s11=>[(0,a0),(1,a1),(5,(.pointer (some ⟨b5,0,none⟩))),(7,v26)]) (fun s11=>[bx b5 296 (aK.C v14)]) (M<|J c<|aa<|gg H10 (gf (vs:=[]) c c) c fun v28 _ H14=>p (nh c c)<|J c<|V c c (az _) (fun g15=>wv<|ai c)<|bU H14 (fun k17 H18=>F (D k17)<|aW H18 sc_249 c (fun _=>c) c fun x32 H19=>F (D k17)<|gg H19 (gf (vs:=[x32]) (aD c k17) c) c fun v33 _ H20=>F (D k17)<|R (cq c)<|p (aU c k17 c)<|ad<|av c H20 (fun k21 H22=>ar<|aa<|aS H22 (gE c) c fun v36 _ H23=>evlNo H23) fun k21 H22=>ao<|cG () H22 (.cons c<|.cons c<|.cons c<|.cons c<|.nil _)<|.cons_cons _ .slnil) fun k17 H18=>W (aR k17)<|W (aR k17)<|W (aR k17)<|p (aq c k17 c)<|ad<|ev_no c c<|ao<|cG () H18 (.cons c<|.cons c<|.cons c<|.cons c<|.nil _)<|.cons_cons _ .slnil) fun s11 _ H12=>M<|J c<|J c<|bi (bC (k:=0) ag_296 c c c c) c<|J c<|aa<|Z H12 en_232 fun r41 _ H13=>O c<|aj<|Y ⟨r41,c,H13⟩
def errors_is_l2 (a1:Value) (a2:Bool) (K:Bool→Hp→Prop) (v43:Sl) (Rec26:Int→Hp→Prop) (s25:Int):Hp→Prop:=br (decide (s25 < (v43.len:Int))) ( ix v43 s25 fun q47=>ld (q47.1,q47.2 + Int.toNat s25 * 1) cV fun x48=>cl Tryz.prog nP [x48,a1,(.bool a2)] aC fun r52=>br r52 ( K true) ( Rec26 (IntKind.i64.wrap (s25 + 1)))) ( K false)
def sk (a1:Value) (a2:Bool) (K:Bool→Hp→Prop) (Rec2:Value→Hp→Prop) (s1:Value) (s12:Unit):Hp→Prop:=hpv Tryz.prog (Instr.typeAssert s1 gx jh true) gr fun (v32:Value × Bool)=>br v32.2 ( cln Tryz.prog (callMethod v32.1 "Unwrap" #[]) encV fun (v36:Value)=>hpv Tryz.prog (do eqGuard .eql 199 (.tmp 37) (.const Value.nilIface) v36 Value.nilIface; binOp .eql 199 v36 Value.nilIface:Sem Value) aC fun (v38:Bool)=>br v38 ( K false) ( Rec2 v36)) ( hpv Tryz.prog (Instr.typeAssert s1 gx iB true) fZ fun (v39:Value × Bool)=>br v39.2 ( cln Tryz.prog (callMethod v39.1 "Unwrap" #[]) R_Serror fun (v43:Sl)=>Lp (errors_is_l2 a1 a2 K v43) 0) ( K false))
def errors_is_l3 (a1:Value) (a2:Bool) (K:Bool→Hp→Prop) (v43:Sl) (Rec60:Int→Hp→Prop) (s59:Int):Hp→Prop:=br (decide (s59 < (v43.len:Int))) ( ix v43 s59 fun q47=>ld (q47.1,q47.2 + Int.toNat s59 * 1) cV fun x48=>cl Tryz.prog nP [x48,a1,(.bool a2)] aC fun r52=>br r52 ( K true) ( Rec60 (IntKind.i64.wrap (s59 + 1)))) ( K false)
def xo (a1:Value) (a2:Bool) (K:Bool→Hp→Prop) (Rec2:Value→Hp→Prop) (s1:Value) (s46:Unit):Hp→Prop:=hpv Tryz.prog (Instr.typeAssert s1 gx jh true) gr fun (v32:Value × Bool)=>br v32.2 ( cln Tryz.prog (callMethod v32.1 "Unwrap" #[]) encV fun (v36:Value)=>hpv Tryz.prog (do eqGuard .eql 199 (.tmp 37) (.const Value.nilIface) v36 Value.nilIface; binOp .eql 199 v36 Value.nilIface:Sem Value) aC fun (v38:Bool)=>br v38 ( K false) ( Rec2 v36)) ( hpv Tryz.prog (Instr.typeAssert s1 gx iB true) fZ fun (v39:Value × Bool)=>br v39.2 ( cln Tryz.prog (callMethod v39.1 "Unwrap" #[]) R_Serror fun (v43:Sl)=>Lp (errors_is_l3 a1 a2 K v43) 0) ( K false))
def sj (a1:Value) (a2:Bool) (K:Bool→Hp→Prop) (Rec2:Value→Hp→Prop) (s1:Value):Hp→Prop:=br a2 ( hpv Tryz.prog (do eqGuard .eql 199 (.tmp 16) (.tmp 17) s1 a1; binOp .eql 199 s1 a1:Sem Value) aC fun (v18:Bool)=>br v18 ( K true) ( hpv Tryz.prog (Instr.typeAssert s1 gx mq true) jM fun (v22:Value × Bool)=>br v22.2 ( cln Tryz.prog (callMethod v22.1 "Is" #[a1]) aC fun (v29:Bool)=>br v29 ( K true) ( sk a1 a2 K Rec2 s1 ())) ( sk a1 a2 K Rec2 s1 ()))) ( hpv Tryz.prog (Instr.typeAssert s1 gx mq true) jM fun (v22:Value × Bool)=>br v22.2 ( cln Tryz.prog (callMethod v22.1 "Is" #[a1]) aC fun (v29:Bool)=>br v29 ( K true) ( xo a1 a2 K Rec2 s1 ())) ( xo a1 a2 K Rec2 s1 ()))
def wN (a0:Value) (a1:Value) (a2:Bool) (K:Bool→Hp→Prop):Hp→Prop:=Lp (sj a1 a2 K) a0
theorem sim_errors_is (a0:Value) (a1:Value) (a2:Bool) {K:Bool→Hp→Prop} {h:Hp} (H:wN a0 a1 a2 K h):Ct Tryz.prog nP #[a0,a1,(.bool a2)] h fun v h'=>∃ r,v = aC r∧K r h':=aw [a0,a1,(.bool a2)] Tryz.func192 c c c fun _=>M<|O c<|ay<|bE (step:=sj a1 a2 K) (fun s1=>[(0,s1),(1,a1),(2,(.bool a2))]) (fun s1=>[]) H (.cons c<|.cons c<|.cons c<|.nil _) .slnil fun Rec2 s1 _ H3=>ay<|al<|M<|J c<|J c<|V c c (az _) (fun g4=>wv<|ai c)<|V c c (az _) (fun g5=>wv<|ai c)<|bU H3 (fun k7 H8=>F (D k7)<|aS H8 (gu (aD c k7)<|aD c k7) c fun v18 _ H9=>p (aU c k7 c)<|ad<|av c H9 (fun k10 H11=>M<|O c<|aj<|Y ⟨true,c,H11⟩) fun k10 H11=>ao<|eo (sk a1 a2 K Rec2 s1) (fun s12=>[(0,s1),(1,a1),(2,(.bool a2))]) (fun s12=>[]) (M<|J c<|aa<|aS H11 (gb c) c fun v22 _ H37=>J c<|p (ak c c)<|p (ak c c)<|p (au c)<|O c<|M<|J c<|J c<|V c c (az _) (fun g38=>wv<|ai c)<|V c c (az _) (fun g39=>wv<|ai c)<|bU H37 (fun k41 H42=>F (D k41)<|gg H42 (gf (vs:=[a1]) (aD c k41)<|aT (aD c k41) bQ) c fun v29 _ H43=>p (aU c k41 c)<|ad<|av c H43 (fun k44 H45=>M<|O c<|aj<|Y ⟨true,c,H45⟩) fun k44 H45=>ao<|cG () H45 (.cons c<|.cons c<|.cons c<|.nil _) .slnil) fun k41 H42=>W (aR k41)<|p (aq c k41 c)<|ad<|ev_no c c<|ao<|cG () H42 (.cons c<|.cons c<|.cons c<|.nil _) .slnil) fun s12 _ H13=>M<|J c<|ad<|ay<|M<|aa<|aS H13 (gb c) c fun v32 _ H14=>p (ak c c)<|p (ak c c)<|ad<|av c H14 (fun k15 H16=>M<|O c<|M<|J c<|aa<|gg H16 (gf (vs:=[]) c c) c fun v36 _ H17=>O c<|M<|J c<|aa<|aS H17 (gu c c) c fun v38 _ H18=>ad<|av c H18 (fun k19 H20=>M<|O c<|aj<|Y ⟨false,c,H20⟩) fun k19 H20=>ao<|cR v36 H20 (.cons c<|.cons c<|.cons c<|.nil _) .slnil) fun k15 H16=>M<|aa<|aS H16 (gb c) c fun v39 _ H21=>p (ak c c)<|p (ak c c)<|ad<|av c H21 (fun k22 H23=>M<|O c<|al<|M<|J c<|aa<|gg H23 (gf (vs:=[]) c c) c fun v43 _ H24=>p (dA c Tryz.underlying280 c)<|J c<|ad<|ay<|bE (step:=errors_is_l2 a1 a2 K v43) (fun s25=>[(1,a1),(2,(.bool a2)),(43,(sv v43)),(44,(.int .i64 (v43.len:Int))),(45,(.int .i64 s25))]) (fun s25=>[]) H24 (.cons c<|.cons c<|.cons c<|.cons c<|.cons c<|.nil _) .slnil fun Rec26 s25 _ H27=>M<|p (cC c c)<|ad<|al<|av c H27 (fun k28 H29=>ao<|al<|ay<|M<|ct H29 fun q47 e30 h31 H32=>p (bq slc_280 (aN c<|bc e30) c h31)<|aa<|aW H32 sc_199 c (fun _=>c) c fun x48 H33=>O c<|M<|J c<|J c<|J c<|aa<|Z H33 en_192 fun r52 _ H34=>ad<|av c H34 (fun k35 H36=>M<|O c<|aj<|Y ⟨true,c,H36⟩) fun k35 H36=>ao<|ar<|p (bw c c)<|J c<|ad<|cR (IntKind.i64.wrap (s25 + 1)) H36 (.cons c<|.cons c<|.cons c<|.cons c<|.cons c<|.nil _) .slnil) fun k28 H29=>bj<|M<|O c<|aj<|Y ⟨false,c,H29⟩) fun k22 H23=>M<|O c<|M<|O c<|aj<|Y ⟨false,c,H23⟩) fun k7 H8=>W (aR k7)<|p (aq c k7 c)<|ad<|ev_no c c<|ao<|eo (xo a1 a2 K Rec2 s1) (fun s46=>[(0,s1),(1,a1),(2,(.bool a2))]) (fun s46=>[]) (M<|J c<|aa<|aS H8 (gb c) c fun v22 _ H71=>J c<|p (ak c c)<|p (ak c c)<|p (au c)<|O c<|M<|J c<|J c<|V c c (az _) (fun g72=>wv<|ai c)<|V c c (az _) (fun g73=>wv<|ai c)<|bU H71 (fun k75 H76=>F (D k75)<|gg H76 (gf (vs:=[a1]) (aD c k75)<|aT (aD c k75) bQ) c fun v29 _ H77=>p (aU c k75 c)<|ad<|av c H77 (fun k78 H79=>M<|O c<|aj<|Y ⟨true,c,H79⟩) fun k78 H79=>ao<|cG () H79 (.cons c<|.cons c<|.cons c<|.nil _) .slnil) fun k75 H76=>W (aR k75)<|p (aq c k75 c)<|ad<|ev_no c c<|ao<|cG () H76 (.cons c<|.cons c<|.cons c<|.nil _) .slnil) fun s46 _ H47=>M<|J c<|ad<|ay<|M<|aa<|aS H47 (gb c) c fun v32 _ H48=>p (ak c c)<|p (ak c c)<|ad<|av c H48 (fun k49 H50=>M<|O c<|M<|J c<|aa<|gg H50 (gf (vs:=[]) c c) c fun v36 _ H51=>O c<|M<|J c<|aa<|aS H51 (gu c c) c fun v38 _ H52=>ad<|av c H52 (fun k53 H54=>M<|O c<|aj<|Y ⟨false,c,H54⟩) fun k53 H54=>ao<|cR v36 H54 (.cons c<|.cons c<|.cons c<|.nil _) .slnil) fun k49 H50=>M<|aa<|aS H50 (gb c) c fun v39 _ H55=>p (ak c c)<|p (ak c c)<|ad<|av c H55 (fun k56 H57=>M<|O c<|al<|M<|J c<|aa<|gg H57 (gf (vs:=[]) c c) c fun v43 _ H58=>p (dA c Tryz.underlying280 c)<|J c<|ad<|ay<|bE (step:=errors_is_l3 a1 a2 K v43) (fun s59=>[(1,a1),(2,(.bool a2)),(43,(sv v43)),(44,(.int .i64 (v43.len:Int))),(45,(.int .i64 s59))]) (fun s59=>[]) H58 (.cons c<|.cons c<|.cons c<|.cons c<|.cons c<|.nil _) .slnil fun Rec60 s59 _ H61=>M<|p (cC c c)<|ad<|al<|av c H61 (fun k62 H63=>ao<|al<|ay<|M<|ct H63 fun q47 e64 h65 H66=>p (bq slc_280 (aN c<|bc e64) c h65)<|aa<|aW H66 sc_199 c (fun _=>c) c fun x48 H67=>O c<|M<|J c<|J c<|J c<|aa<|Z H67 en_192 fun r52 _ H68=>ad<|av c H68 (fun k69 H70=>M<|O c<|aj<|Y ⟨true,c,H70⟩) fun k69 H70=>ao<|ar<|p (bw c c)<|J c<|ad<|cR (IntKind.i64.wrap (s59 + 1)) H70 (.cons c<|.cons c<|.cons c<|.cons c<|.cons c<|.nil _) .slnil) fun k62 H63=>bj<|M<|O c<|aj<|Y ⟨false,c,H63⟩) fun k56 H57=>M<|O c<|M<|O c<|aj<|Y ⟨false,c,H57⟩
def wO (a0:Value) (a1:Value) (K:Bool→Hp→Prop):Hp→Prop:=hpv Tryz.prog (do eqGuard .eql 199 (.tmp 6) (.const Value.nilIface) a0 Value.nilIface; binOp .eql 199 a0 Value.nilIface:Sem Value) aC fun (v7:Bool)=>br (!v7) ( hpv Tryz.prog (do eqGuard .eql 199 (.tmp 9) (.const Value.nilIface) a1 Value.nilIface; binOp .eql 199 a1 Value.nilIface:Sem Value) aC fun (v10:Bool)=>br v10 ( hpv Tryz.prog (do eqGuard .eql 199 (.tmp 12) (.tmp 13) a0 a1; binOp .eql 199 a0 a1:Sem Value) aC fun (v14:Bool)=>K v14) ( cln Tryz.prog (callFunc gi #[a1]) encV fun (v16:Value)=>cln Tryz.prog (callMethod v16 "Comparable" #[]) aC fun (v17:Bool)=>cl Tryz.prog nP [a0,a1,(.bool v17)] aC fun r21=>K r21)) ( hpv Tryz.prog (do eqGuard .eql 199 (.tmp 12) (.tmp 13) a0 a1; binOp .eql 199 a0 a1:Sem Value) aC fun (v14:Bool)=>K v14)
theorem sim_errors_Is (a0:Value) (a1:Value) {K:Bool→Hp→Prop} {h:Hp} (H:wO a0 a1 K h):Ct Tryz.prog nQ #[a0,a1] h fun v h'=>∃ r,v = aC r∧K r h':=aw [a0,a1] Tryz.func149 c c c fun _=>M<|O c<|al<|M<|J c<|aa<|aS H (gu c c) c fun v7 _ H1=>J c<|V c c (aJ _) (fun g2=>wv<|ai c)<|bU H1 (fun k4 H5=>F (D<|ch k4)<|aS H5 (gu (aD c k4) c) c fun v10 _ H6=>p (aq c (ch k4) c)<|ad<|av c H6 (fun k7 H8=>M<|J c<|J c<|aa<|aS H8 (gu c c) c fun v14 _ H9=>O c<|aj<|Y ⟨v14,c,H9⟩) fun k7 H8=>ao<|M<|J c<|aa<|gg H8 (rP (vs:=[a1]) c) c fun v16 _ H10=>aa<|gg H10 (gf (vs:=[]) c c) c fun v17 _ H11=>O c<|M<|J c<|J c<|J c<|aa<|Z H11 en_192 fun r21 _ H12=>O c<|aj<|Y ⟨r21,c,H12⟩) fun k4 H5=>W (cd<|bJ k4)<|p (aU c (bJ k4) c)<|ad<|mB c c<|M<|J c<|J c<|aa<|aS H5 (gu c c) c fun v14 _ H13=>O c<|aj<|Y ⟨v14,c,H13⟩
end Go.Proofs.YtemoifebbhoinaaGreatDoor
namespace Go.Proofs.YtemoifebbhoinaaGreatDoor
open Go Mb
set_option linter.unusedVariables false
def sh_trap_Of (a0:Int) (K:Value→Hp→Prop):Hp→Prop:=br (a0 == 0) ( K Value.nilIface) ( nw nF (bX.C (⟨a0,(-1),(⟨0,0,0,0,0⟩:ah),Value.nilIface⟩:bX)) fun b7=>hpv Tryz.prog (Instr.makeInterface bg (.pointer (some ⟨b7,0,none⟩))) encV fun (v8:Value)=>K v8)
theorem sim_trap_Of (a0:Int) {K:Value→Hp→Prop} {h:Hp} (H:sh_trap_Of a0 K h):Ct Tryz.prog kE #[(.int .i64 a0)] h fun v h'=>∃ r,v = iz r∧K r h':=aw [(.int .i64 a0)] Tryz.func150 c c c fun _=>M<|O c<|al<|M<|J c<|p (bO c c)<|ad<|av c H (fun k1 H2=>M<|O c<|aj<|Y ⟨Value.nilIface,c,H2⟩) fun k1 H2=>ao<|M<|J c<|p (aY c<|build_254_0_1 a0 (-1))<|aa<|ie c c c H2 fun b7 _ H3=>aa<|aS H3 (gE c) c fun v8 _ H4=>O c<|aj<|Y ⟨v8,c,H4⟩
def mG (K:(Ptr × Bool)→Hp→Prop) (b4:Nat) (s2:Bool):Hp→Prop:=br s2 ( K (none,false)) ( ld (b4,0) cP fun x13=>K (x13,true))
def uP (a0:Value) (K:(Ptr × Bool)→Hp→Prop):Hp→Prop:=nw bg [pv none] fun b4=>hpv Tryz.prog (Instr.makeInterface bB (.pointer (some ⟨b4,0,none⟩))) encV fun (v6:Value)=>cl Tryz.prog uw [a0,v6] aC fun r7=>br (!(!r7)) ( ld (b4,0) cP fun x10=>mG K b4 x10.isNone) ( mG K b4 true)
theorem sim_trap_First (a0:Value) {K:(Ptr × Bool)→Hp→Prop} {h:Hp} (H:uP a0 K h):Ct Tryz.prog jZ #[a0] h fun v h'=>∃ r,v = eH r∧K r h':=aw [a0] Tryz.func222 c c c fun _=>M<|p (au c)<|O c<|M<|aa<|to_alloc zero_252 c c H fun b4 _ H1=>ad<|al<|eo (mG K b4) (fun s2=>[(4,(.pointer (some ⟨b4,0,none⟩))),(12,(.bool s2))]) (fun s2=>[]) (ar<|J c<|aa<|aS H1 (gE c) c fun v6 _ H7=>aa<|Z H7 en_227 fun r7 _ H8=>p (cq c)<|J c<|bU H8 (fun k10 H11=>F (D<|ch k10)<|aW H11 sc_252 c (fun _=>c) c fun x10 H12=>F (D<|ch k10)<|R (cn Tryz.underlying252 c)<|p (aq c (ch k10) c)<|ad<|cG x10.isNone H12 (.cons c<|.cons c<|.nil _) .slnil) fun k10 H11=>W (cd<|bJ k10)<|W (cd<|bJ k10)<|p (aU c (bJ k10) c)<|ad<|cG true H11 (.cons c<|.cons c<|.nil _) .slnil) fun s2 _ H3=>av c H3 (fun k4 H5=>M<|p (au c)<|O c<|aj<|bv (bN c (bY c)<|bY c) ⟨(none,false),c,H5⟩) fun k4 H5=>ao<|M<|aa<|aW H5 sc_252 c (fun _=>c) c fun x13 H6=>p (au c)<|O c<|aj<|bv (bN c (bY c)<|bY c) ⟨(x13,true),c,H6⟩
def sh_trap_Code (a0:Value) (K:Int→Hp→Prop):Hp→Prop:=hpv Tryz.prog (do eqGuard .eql 199 (.tmp 5) (.const Value.nilIface) a0 Value.nilIface; binOp .eql 199 a0 Value.nilIface:Sem Value) aC fun (v6:Bool)=>br v6 ( K 0) ( cl Tryz.prog jZ [a0] eH fun r9=>br r9.2 ( nn r9.1 fun q14=>ld (q14.1,q14.2 + 0) (cI .i64) fun x16=>K x16) ( K 9))
theorem sim_trap_Code (a0:Value) {K:Int→Hp→Prop} {h:Hp} (H:sh_trap_Code a0 K h):Ct Tryz.prog ut #[a0] h fun v h'=>∃ r,v = bh r∧K r h':=aw [a0] Tryz.func208 c c c fun _=>M<|O c<|al<|M<|J c<|aa<|aS H (gu c c) c fun v6 _ H1=>ad<|av c H1 (fun k2 H3=>M<|O c<|aj<|Y ⟨0,c,H3⟩) fun k2 H3=>ao<|al<|M<|J c<|aa<|Z H3 en_222 fun r9 _ H4=>J c<|p (ak c c)<|p (ak c c)<|p (au c)<|O c<|M<|J c<|ad<|av c H4 (fun k5 H6=>M<|J c<|bF H6 fun q14 e7 H8=>p (aL<|aN c<|ap e7)<|p (ae vV c)<|aa<|aW H8 ll c (fun _=>c) c fun x16 H9=>O c<|aj<|Y ⟨x16,c,H9⟩) fun k5 H6=>ao<|M<|O c<|aj<|Y ⟨9,c,H6⟩
def sh_trap_In (a0:Int) (a1:ah) (a2:Value) (K:Value→Hp→Prop):Hp→Prop:=hpv Tryz.prog (do eqGuard .eql 199 (.tmp 7) (.const Value.nilIface) a2 Value.nilIface; binOp .eql 199 a2 Value.nilIface:Sem Value) aC fun (v8:Bool)=>br v8 ( K Value.nilIface) ( cl Tryz.prog ut [a2] bh fun r10=>hpv Tryz.prog (Instr.build nF #[(0,(.int .i64 r10)),(1,(.int .i64 a0)),(2,(.agg (ah.C a1).toArray)),(3,a2)]) R_trap_Trap fun (v14:bX)=>nw nF (bX.C v14) fun b15=>hpv Tryz.prog (Instr.makeInterface bg (.pointer (some ⟨b15,0,none⟩))) encV fun (v16:Value)=>K v16)
theorem sim_trap_In (a0:Int) (a1:ah) (a2:Value) {K:Value→Hp→Prop} {h:Hp} (H:sh_trap_In a0 a1 a2 K h):Ct Tryz.prog n_trap_In #[(.int .i64 a0),(.agg (ah.C a1).toArray),a2] h fun v h'=>∃ r,v = iz r∧K r h':=aw [(.int .i64 a0),(.agg (ah.C a1).toArray),a2] Tryz.func186 c c c fun _=>M<|aa<|cQ (l:=ah.C a1) c c c fun b4=>O c<|al<|M<|J c<|aa<|aS H (gu c c) c fun v8 _ H1=>ad<|av c H1 (fun k2 H3=>M<|O c<|aj<|Y ⟨Value.nilIface,c,H3⟩) fun k2 H3=>ao<|al<|bm (n:=9) [bx b4 34 (ah.C a1)] cx c (.cons_cons _ .slnil)<|U 0 c (ai c)<|U 2 c (ai c)<|z_E 3 c (eq (k:=0) eT c c c c)<|U 4 c (ai c)<|G 1 c<|Z H3 en_208 fun r10 _ H4=>⟨.cons_cons _ .slnil,G 5 c<|aS H4 (x_build (vs:=[(.int .i64 r10),(.int .i64 a0),(.agg (ah.C a1).toArray),a2]) c) c fun v14 _ H5=>⟨.cons_cons _ .slnil,G 6 c<|ie c c c H5 fun b15 _ H6=>⟨.cons_cons _ .slnil,G 7 c<|aS H6 (gE c) c fun v16 _ H7=>⟨.cons_cons _ .slnil,U 8 c (au c)<|aV (by kernel_rfl)<|aj<|Y ⟨v16,c,H7⟩⟩⟩⟩⟩
def mH (K:Int→Hp→Prop) (Rec3:(Int × Ptr × Bool)→Hp→Prop) (s2:Int × Ptr × Bool):Hp→Prop:=br s2.2.2 ( nn s2.2.1 fun q14=>ld (q14.1,q14.2 + 7) cV fun x16=>cl Tryz.prog jZ [x16] eH fun r17=>Rec3 ((IntKind.i64.wrap (s2.1 + 1)),r17.1,r17.2)) ( K s2.1)
def sh_trap_Depth (a0:Value) (K:Int→Hp→Prop):Hp→Prop:=cl Tryz.prog jZ [a0] eH fun r8=>Lp (mH K) (0,r8.1,r8.2)
theorem sim_trap_Depth (a0:Value) {K:Int→Hp→Prop} {h:Hp} (H:sh_trap_Depth a0 K h):Ct Tryz.prog wY #[a0] h fun v h'=>∃ r,v = eB r∧K r h':=aw [a0] Tryz.func228 c c c fun _=>M<|O c<|M<|O c<|al<|M<|J c<|aa<|Z H en_222 fun r8 _ H1=>J c<|p (ak c c)<|p (ak c c)<|p (au c)<|O c<|ay<|bE (step:=mH K) (fun s2=>[(3,(.int .i64 s2.1)),(4,(pv s2.2.1)),(5,(.bool s2.2.2))]) (fun s2=>[]) H1 (.cons c<|.cons c<|.cons c<|.nil _) .slnil fun Rec3 s2 _ H4=>al<|M<|J c<|ad<|av c H4 (fun k5 H6=>ao<|al<|ay<|ar<|J c<|p (bw c c)<|O c<|ar<|J c<|bF H6 fun q14 e7 H8=>p (aL<|aN c<|ap e7)<|p (ae fld_254_3 c)<|aa<|aW H8 sc_199 c (fun _=>c) c fun x16 H9=>aa<|Z H9 en_222 fun r17 _ H10=>J c<|p (ak c c)<|p (ak c c)<|p (au c)<|O c<|cR ((IntKind.i64.wrap (s2.1 + 1)),r17.1,r17.2) H10 (.cons c<|.cons c<|.cons c<|.nil _) .slnil) fun k5 H6=>bj<|M<|J c<|O c<|aj<|Y ⟨s2.1,c,H6⟩
def ni (a0:Ptr) (K:ByteArray→Hp→Prop):Hp→Prop:=br a0.isNone ( K (⟨#[]⟩:ByteArray)) ( nn a0 fun q7=>ld (q7.1,q7.2 + 0) (cI .i64) fun x9=>cl Tryz.prog te [(.int .i64 x9)] dS fun r10=>hpv Tryz.prog (do eqGuard .add 9 (.const (.string (⟨#[116,114,97,112,32]⟩:ByteArray))) (.tmp 10) (.string (⟨#[116,114,97,112,32]⟩:ByteArray)) (.string r10); binOp .add 9 (.string (⟨#[116,114,97,112,32]⟩:ByteArray)) (.string r10):Sem Value) dS fun (v11:ByteArray)=>ld (q7.1,q7.2 + 7) cV fun x15=>hpv Tryz.prog (do eqGuard .neq 199 (.tmp 15) (.const Value.nilIface) x15 Value.nilIface; binOp .neq 199 x15 Value.nilIface:Sem Value) aC fun (v16:Bool)=>br v16 ( ld (q7.1,q7.2 + 7) cV fun x21=>cln Tryz.prog (callMethod x21 "Error" #[]) dS fun (v22:ByteArray)=>hpv Tryz.prog (do eqGuard .add 9 (.const (.string (⟨#[58,32]⟩:ByteArray))) (.tmp 22) (.string (⟨#[58,32]⟩:ByteArray)) (.string v22); binOp .add 9 (.string (⟨#[58,32]⟩:ByteArray)) (.string v22):Sem Value) dS fun (v23:ByteArray)=>hpv Tryz.prog (do eqGuard .add 9 (.tmp 17) (.tmp 23) (.string v11) (.string v23); binOp .add 9 (.string v11) (.string v23):Sem Value) dS fun (v24:ByteArray)=>K v24) ( K v11))
theorem rx (a0:Ptr) {K:ByteArray→Hp→Prop} {h:Hp} (H:ni a0 K h):Ct Tryz.prog iR #[(pv a0)] h fun v h'=>∃ r,v = dS r∧K r h':=aw [(pv a0)] Tryz.func253 c c c fun _=>M<|O c<|al<|M<|J c<|p (cn Tryz.underlying252 c)<|ad<|av c H (fun k1 H2=>M<|O c<|aj<|Y ⟨(⟨#[]⟩:ByteArray),c,H2⟩) fun k1 H2=>ao<|M<|J c<|bF H2 fun q7 e3 H4=>p (aL<|aN c<|ap e3)<|p (ae vV c)<|aa<|aW H4 ll c (fun _=>c) c fun x9 H5=>aa<|Z H5 en_256 fun r10 _ H6=>aa<|aS H6 (gu c c) c fun v11 _ H7=>O c<|al<|M<|J (aN c<|ap e3)<|p (aL c)<|p (ae fld_254_3 c)<|aa<|aW H7 sc_199 c (fun _=>c) c fun x15 H8=>aa<|aS H8 (gu c c) c fun v16 _ H9=>ad<|av c H9 (fun k10 H11=>ar<|J c<|J (aN c<|ap e3)<|p (aL c)<|p (ae fld_254_3 c)<|aa<|aW H11 sc_199 c (fun _=>c) c fun x21 H12=>aa<|gg H12 (gf (vs:=[]) c c) c fun v22 _ H13=>aa<|aS H13 (gu c c) c fun v23 _ H14=>aa<|aS H14 (gu c c) c fun v24 _ H15=>O c<|M<|J c<|O c<|aj<|Y ⟨v24,c,H15⟩) fun k10 H11=>ao<|M<|J c<|O c<|aj<|Y ⟨v11,c,H11⟩
def sh_trap_Trap_Is (a0:Ptr) (a1:Value) (K:Bool→Hp→Prop):Hp→Prop:=hpv Tryz.prog (Instr.typeAssert a1 gx bg true) eH fun (v9:Ptr × Bool)=>br v9.2 ( br (!a0.isNone) ( br (!v9.1.isNone) ( nn a0 fun q23=>nn v9.1 fun q27=>ld (q23.1,q23.2 + 0) (cI .i64) fun x25=>ld (q27.1,q27.2 + 0) (cI .i64) fun x29=>K (x25 == x29)) ( K false)) ( K false)) ( K false)
theorem sim_trap_Trap_Is (a0:Ptr) (a1:Value) {K:Bool→Hp→Prop} {h:Hp} (H:sh_trap_Trap_Is a0 a1 K h):Ct Tryz.prog tc #[(pv a0),a1] h fun v h'=>∃ r,v = aC r∧K r h':=aw [(pv a0),a1] Tryz.func254 c c c fun _=>M<|O c<|M<|J c<|aa<|aS H (gb c) c fun v9 _ H1=>J c<|p (ak c c)<|p (ak c c)<|p (au c)<|O c<|al<|bm (n:=21) [] cx c .slnil<|U 0 c (ai c)<|U 1 c (ai c)<|nA H1 (fun k2 H3=>z_n 2 c (D k2) (ve<|ai c)<|z_n 3 c (D k2) (ve<|v_pneT Tryz.underlying252 c)<|U 4 c (aU c k2 c)<|U 5 c (ai c)<|nA H3 (fun k4 H5=>z_n 6 c (D k4) (ve<|ai c)<|z_n 7 c (D k4) (ve<|v_pneT Tryz.underlying252 c)<|U 8 c (aU c k4 c)<|U 9 c (ai c)<|nA H5 (fun k6 H7=>z_n 10 c (D k6) (ve<|ai c)<|z_n 14 c (D k6) (ve<|ai c)<|gZ H7 fun q23 e8 H9=>z_n 11 c (D k6) (ve<|aL<|aN c<|ap e8)<|z_n 12 c (D k6) (ve<|ae vV c)<|gZ H9 fun q27 e10 H11=>z_n 15 c (D k6) (ve<|aL<|aN c<|ap e10)<|z_n 16 c (D k6) (ve<|ae vV c)<|mn (i:=13) (fun _ _ _ _ hh=>hh) H11 c (by kernel_rfl) c c c (D k6) ll c (fun _=>c) c fun x25 H12=>mn (i:=17) (fun _ _ _ _ hh=>hh) H12 c (by kernel_rfl) c c c (D k6) ll c (fun _=>c) c fun x29 H13=>z_n 18 c (D k6) (ve<|bO c c)<|U 19 c (aU c k6 c)<|U 20 c (au c)<|aV (by kernel_rfl)<|aj<|Y ⟨(x25 == x29),c,H13⟩) fun k6 H7=>I 10 c (aR k6)<|I 11 c (aR k6)<|I 12 c (aR k6)<|I 13 c (aR k6)<|I 14 c (aR k6)<|I 15 c (aR k6)<|I 16 c (aR k6)<|I 17 c (aR k6)<|I 18 c (aR k6)<|U 19 c (aq c k6 c)<|U 20 c (au c)<|aV (by kernel_rfl)<|aj<|Y ⟨false,c,H7⟩) fun k4 H5=>I 6 c (aR k4)<|I 7 c (aR k4)<|U 8 c (aq c k4 c)<|U 9 c (ai c)<|I 10 c c<|I 11 c c<|I 12 c c<|I 13 c c<|I 14 c c<|I 15 c c<|I 16 c c<|I 17 c c<|I 18 c c<|U 19 c (aq c c c)<|U 20 c (au c)<|aV (by kernel_rfl)<|aj<|Y ⟨false,c,H5⟩) fun k2 H3=>I 2 c (aR k2)<|I 3 c (aR k2)<|U 4 c (aq c k2 c)<|U 5 c (ai c)<|I 6 c c<|I 7 c c<|U 8 c (aq c c c)<|U 9 c (ai c)<|I 10 c c<|I 11 c c<|I 12 c c<|I 13 c c<|I 14 c c<|I 15 c c<|I 16 c c<|I 17 c c<|I 18 c c<|U 19 c (aq c c c)<|U 20 c (au c)<|aV (by kernel_rfl)<|aj<|Y ⟨false,c,H3⟩
def ry (a0:Ptr) (K:Value→Hp→Prop):Hp→Prop:=br a0.isNone ( K Value.nilIface) ( nn a0 fun q6=>ld (q6.1,q6.2 + 7) cV fun x8=>K x8)
theorem sim_trap_Trap_Unwrap (a0:Ptr) {K:Value→Hp→Prop} {h:Hp} (H:ry a0 K h):Ct Tryz.prog nl #[(pv a0)] h fun v h'=>∃ r,v = iz r∧K r h':=aw [(pv a0)] Tryz.func255 c c c fun _=>M<|O c<|al<|M<|J c<|p (cn Tryz.underlying252 c)<|ad<|av c H (fun k1 H2=>M<|O c<|aj<|Y ⟨Value.nilIface,c,H2⟩) fun k1 H2=>ao<|M<|J c<|bF H2 fun q6 e3 H4=>p (aL<|aN c<|ap e3)<|p (ae fld_254_3 c)<|aa<|aW H4 sc_199 c (fun _=>c) c fun x8 H5=>O c<|aj<|Y ⟨x8,c,H5⟩
end Go.Proofs.YtemoifebbhoinaaGreatDoor
namespace Go.Proofs.YtemoifebbhoinaaGreatDoor
open Go Mb
variable {ET:Nat} {EF:Nat × Nat}
abbrev dw (b:Nat):Value:=.iface bg (.pointer (some ⟨b,0,none⟩))
theorem g0:Tryz.prog.globals.size = 4:=by kernel_rfl
theorem g1:typeHandle Tryz.prog bg = pv (some (4,bg)):=by kernel_rfl
theorem g2:(Tryz.prog.globals[0]?).map (·.type) = some 249:=by kernel_rfl
theorem oneErr:((List.range 351).filter fun t=>Tryz.prog.rowNamed t [101,114,114,111,114]) = [199]:=by kernel_rfl
theorem g4:Tryz.prog.types.size = 351:=by kernel_rfl
abbrev rtV (T:Nat):Value:=.iface rv (.agg #[pv (some (4,T))])
abbrev vl (T c f:Nat):aK:=⟨some (4,T),some (c,0),f⟩
abbrev vlV (T c f:Nat):Value:=.agg (aK.C (vl T c f)).toArray
section
variable (b:Nat) (K:Next→Hp→Prop) (h:Hp)
theorem x7:hp Tryz.prog (callFunc gi #[dw b]) K h = K (.value (rtV bg)) h:=by kernel_rfl
theorem x8:hp Tryz.prog (callFunc cY #[.iface bB (.pointer (some ⟨b,0,none⟩))]) K h = (true = true∧∀ e,h e = none→K (.value (vlV bB e 150)) (dU h e (.cells #[pv (some (b,0))] bB (0,0)))):=by kernel_rfl
theorem x8':hp Tryz.prog (callFunc cY #[dw b]) K h = (true = true∧∀ e,h e = none→K (.value (vlV bg e 150)) (dU h e (.cells #[pv (some (b,0))] bg (0,0)))):=by kernel_rfl
theorem x10:hp Tryz.prog (callMethod (rtV bB) "Kind" #[]) K h = K (.value (.int .u8 22)) h:=by kernel_rfl
theorem x11:hp Tryz.prog (callMethod (rtV bB) "Elem" #[]) K h = K (.value (rtV bg)) h:=by kernel_rfl
theorem x12:hp Tryz.prog (callMethod (rtV bg) "Kind" #[]) K h = K (.value (.int .u8 22)) h:=by kernel_rfl
theorem x13:hp Tryz.prog (callMethod (rtV bg) "Comparable" #[]) K h = K (.value (.bool true)) h:=by kernel_rfl
theorem x14:hp Tryz.prog (callMethod (rtV bg) "AssignableTo" #[rtV bg]) K h = K (.value (.bool true)) h:=by kernel_rfl
theorem x15 (c:Nat):hp Tryz.prog (callFunc iA #[vlV bB c 150]) K h = K (.value (rtV bB)) h:=by kernel_rfl
theorem x16 (c:Nat):hp Tryz.prog (callFunc eX #[vlV bB c 150]) K h =
  hp Tryz.prog (do let r ← Extern.ReflectliteValue.isNil bB ⟨c,0,none⟩ 150 22; pure (.value r)) K h:=by kernel_rfl
theorem x17:hp Tryz.prog (callMethod (rtV bg) "Implements" #[rtV gx]) K h = K (.value (.bool true)) h:=by kernel_rfl
theorem x18 (c:Nat):hp Tryz.prog (callFunc fw #[vlV bB c 150]) K h =
  hp Tryz.prog (do let r ← Extern.ReflectliteValue.elem bB ⟨c,0,none⟩ 150 22; pure (.value r)) K h:=by kernel_rfl
theorem x19 (c d:Nat):hp Tryz.prog (callFunc fB #[vlV bg c 406,vlV bg d 150]) K h =
  hp Tryz.prog (do let r ← (do let v ← loadVar bg ⟨d,0,none⟩; storeVar bg ⟨c,0,none⟩ v; pure (Value.tuple #[])); pure (.value r)) K h:=by kernel_rfl
theorem y1 (c:Nat) (K:Value→Hp→Prop):hp Tryz.prog (loadVar bB ⟨c,0,none⟩) K h = ∃ v,nV h ⟨c,0,none⟩ = some v∧K v h:=by kernel_rfl
theorem y2 (c:Nat) (K:Value→Hp→Prop):hp Tryz.prog (loadVar bg ⟨c,0,none⟩) K h = ∃ v,nV h ⟨c,0,none⟩ = some v∧K v h:=by kernel_rfl
theorem y3 (b:Nat) (K:Value→Hp→Prop):hp Tryz.prog (Extern.ReflectliteValue.mk bg ⟨b,0,none⟩ Extern.ReflectliteValue.flagAddr) K h = K (vlV bg b 406) h:=by kernel_rfl
theorem y4 (K:Option TypeId→Hp→Prop):hp Tryz.prog (Extern.Rtype.elem? bB) K h = K (some bg) h:=by kernel_rfl
theorem y5 (b c:Nat) (K:Unit→Hp→Prop):hp Tryz.prog (storeVar bg ⟨c,0,none⟩ (.pointer (some ⟨b,0,none⟩))) K h = hp Tryz.prog (storeCells ⟨c,0,none⟩ [.pointer (some ⟨b,0,none⟩)]) K h:=by kernel_rfl
theorem y6 (K:Value→Hp→Prop) {a b n m:Nat}:hp Tryz.prog (do eqGuard .eql 199 (.tmp n) (.tmp m) (dw a) (dw b); binOp .eql 199 (dw a) (dw b):Sem Value) K h = hp Tryz.prog (do let r ← sameAddr ⟨a,0,none⟩ ⟨b,0,none⟩; pure (.bool r)) K h:=by kernel_rfl
theorem x25 (K:Bool→Hp→Prop) {a b:Nat} {ca cb:List Value} {Ta Tb:Nat} (ha:h a = some (.cells ca.toArray Ta (0,0))) (hb:h b = some (.cells cb.toArray Tb (0,0))) (H:K (a == b) h):hp Tryz.prog (sameAddr ⟨a,0,none⟩ ⟨b,0,none⟩) K h:=by
  unfold sameAddr
  rcases Decidable.em (a = b) with e | e
  · subst e
    rw [if_pos (by simp)]
    have H':K true h:=by simpa using H
    simpa [hp_pure] using H'
  · rw [if_neg (by simpa using e)]
    have fa:∀ (K:Bool→Hp→Prop) (o:Nat),hp Tryz.prog (frozen ⟨a,o,none⟩) K h↔K false h:=fun K o =>
      ⟨fun ⟨o',h1,h2⟩=>by rw [ha] at h1; cases h1; simpa [hp,uq] using h2,fun h2=>⟨_,ha,by simpa [hp,uq] using h2⟩⟩
    have fb:∀ (K:Bool→Hp→Prop) (o:Nat),hp Tryz.prog (frozen ⟨b,o,none⟩) K h↔K false h:=fun K o =>
      ⟨fun ⟨o',h1,h2⟩=>by rw [hb] at h1; cases h1; simpa [hp,uq] using h2,fun h2=>⟨_,hb,by simpa [hp,uq] using h2⟩⟩
    have sa:∀ (K:Option (TypeId × Nat)→Hp→Prop),hp Tryz.prog (shape a) K h↔K (some (Ta,ca.length)) h:=fun K =>
      ⟨fun ⟨o',h1,h2⟩=>by rw [ha] at h1; cases h1; simpa [hp,oshape] using h2,fun h2=>⟨_,ha,by simpa [hp,oshape] using h2⟩⟩
    have sb:∀ (K:Option (TypeId × Nat)→Hp→Prop),hp Tryz.prog (shape b) K h↔K (some (Tb,cb.length)) h:=fun K =>
      ⟨fun ⟨o',h1,h2⟩=>by rw [hb] at h1; cases h1; simpa [hp,oshape] using h2,fun h2=>⟨_,hb,by simpa [hp,oshape] using h2⟩⟩
    have eb:(a == b) = false:=by simpa using e
    rw [eb] at H
    simp [cW,fa,fb,sa,sb,noView,viewAt,mayBeOne,stringish,hp_pure,H]
end
section
variable {P:Program} {τ:Type} {enc:τ→Value} {K:τ→Hp→Prop} {h:Hp}
theorem fC {m:Sem Value} (r:τ) (e:∀ (K:Value→Hp→Prop) h,hp P m K h = K (enc r) h) (k:K r h):hpv P m enc K h:=⟨by rw [e]; exact ⟨r,rfl,k⟩⟩
theorem tC {m:Sem Next} (r:τ) (e:∀ (K:Next→Hp→Prop) h,hp P m K h = K (.value (enc r)) h) (k:K r h):cln P m enc K h:=⟨by rw [e]; exact .inl ⟨r,rfl,k⟩⟩
theorem cln_en {m:Sem Next} {f:FuncId} {vs:List Value} (e:∀ (K:Next→Hp→Prop) h,hp P m K h = K (.enter f vs.toArray) h) (k:cl P f vs enc K h):cln P m enc K h:=⟨by rw [e]; exact .inr ⟨f,_,rfl,k⟩⟩
end
abbrev etB (ET:Nat) (EF:Nat × Nat):As:=obj 0 (.cells #[rtV gx] ET EF)
abbrev trB (b:Nat) (t:bX):As:=blk b nF (bX.C t)
theorem en_0 (b n:Nat) (K:Value→Hp→Prop) (h:Hp):hp Tryz.prog (do eqGuard .eql 199 (.tmp n) (.const Value.nilIface) (dw b) Value.nilIface; binOp .eql 199 (dw b) Value.nilIface:Sem Value) K h = K (.bool false) h:=by kernel_rfl
theorem en_00 (n:Nat) (K:Value→Hp→Prop) (h:Hp):hp Tryz.prog (do eqGuard .eql 199 (.tmp n) (.const Value.nilIface) Value.nilIface Value.nilIface; binOp .eql 199 Value.nilIface Value.nilIface:Sem Value) K h = K (.bool true) h:=by kernel_rfl
theorem en_1 (b n:Nat) (K:Value→Hp→Prop) (h:Hp):hp Tryz.prog (do eqGuard .eql 20 (.tmp n) (.const Value.nilIface) (.iface bB (.pointer (some ⟨b,0,none⟩))) Value.nilIface; binOp .eql 20 (.iface bB (.pointer (some ⟨b,0,none⟩))) Value.nilIface:Sem Value) K h = K (.bool false) h:=by kernel_rfl
theorem sp_As_nil (v:Value):Sp Tryz.prog uw [Value.nilIface,v] aC [] (fun r=>pa_ (r = false) []):=by
  intro h st
  refine sim_errors_As _ _ ?_
  unfold wP
  exact fC true (en_00 _) (dG rfl (aX rfl st))
section
variable {h:Hp} {b c d:Nat}
theorem c22 {K:Bool→Hp→Prop} (e:nV h ⟨c,0,none⟩ = some (.pointer (some ⟨b,0,none⟩))) (H:K false h):cln Tryz.prog (callFunc eX #[vlV bB c 150]) aC K h:=by
  constructor
  rw [x16,cW]
  unfold Extern.ReflectliteValue.isNil
  rw [if_neg (by decide)]
  rw [cW,y1]; exact ⟨_,e,.inl ⟨false,rfl,H⟩⟩
theorem c23 {K:aK→Hp→Prop} (e:nV h ⟨c,0,none⟩ = some (.pointer (some ⟨b,0,none⟩))) (H:K (vl bg b 406) h):cln Tryz.prog (callFunc fw #[vlV bB c 150]) fE K h:=by
  constructor
  rw [x18,cW]
  unfold Extern.ReflectliteValue.elem
  rw [if_neg (by decide),cW,y1]
  refine ⟨_,e,?_⟩
  rw [cW,y4]
  show hp _ (Extern.ReflectliteValue.mk _ _ _) _ h
  rw [y3]; exact .inl ⟨_,rfl,H⟩
theorem c24 {K:Unit→Hp→Prop} (e:nV h ⟨d,0,none⟩ = some (.pointer (some ⟨b,0,none⟩))) (H:hp Tryz.prog (storeCells ⟨c,0,none⟩ [.pointer (some ⟨b,0,none⟩)]) (fun _=>K ()) h):cln Tryz.prog (callFunc fB #[vlV bg c 406,vlV bg d 150]) R_ K h:=by
  constructor
  rw [x19,cW,cW,y2]; refine ⟨_,e,?_⟩
  rw [cW,y5]; exact hp_mono _ (fun _ _ k=>.inl ⟨(),rfl,k⟩) _ H
theorem c8 {K:aK→Hp→Prop} (H:∀ e,h e = none→K (vl bB e 150) (dU h e (.cells #[pv (some (b,0))] bB (0,0)))):cln Tryz.prog (callFunc cY #[.iface bB (.pointer (some ⟨b,0,none⟩))]) fE K h:=by
  constructor
  rw [x8]
  exact ⟨rfl,fun e he=>.inl ⟨_,rfl,H e he⟩⟩
theorem c8' {K:aK→Hp→Prop} (H:∀ e,h e = none→K (vl bg e 150) (dU h e (.cells #[pv (some (b,0))] bg (0,0)))):cln Tryz.prog (callFunc cY #[dw b]) fE K h:=by
  constructor
  rw [x8']
  exact ⟨rfl,fun e he=>.inl ⟨_,rfl,H e he⟩⟩
end
theorem blk_cell {l:List As} {h:Hp} {i b:Nat} {T:TypeId} {c:List Value} {v:Value} (hi:l[i]? = some (blk b T c)) (hv:c[0]? = some v) (s:aG l h):nV h ⟨b,0,none⟩ = some v:=by
  obtain ⟨g1,a1,sub1⟩:=dX hi s
  have:=sub1 _ _ a1
  unfold nV
  rw [this]
  simpa using hv
theorem sp_as (b c d:Nat) (p:Ptr):Sp Tryz.prog uv [dw b,.iface bB (.pointer (some ⟨c,0,none⟩)),vlV bB d 150,rtV bg] aC
    [blk c bg [pv p],blk d bB [pv (some (c,0))]] (fun r=>pa_ (r = true) [blk c bg [pv (some (b,0))]]):=by
  intro h st
  refine sim_errors_as _ _ _ _ ?_
  unfold sh_errors_as
  refine ⟨fun s h=>s = dw b∧aG [blk c bg [pv p],blk d bB [pv (some (c,0))]] h,fun _ _=>0,⟨rfl,st⟩,?_⟩
  rintro _ h1 ⟨rfl,s1⟩
  unfold xp
  refine tC (rtV bg) (fun K h=>x7 b K h) ?_
  refine tC true (fun K h=>x14 K h) (dG rfl ?_)
  refine c23 (blk_cell (i:=1) rfl rfl s1) ?_
  refine c8' fun e he=>?_
  have s2:aG (blk e bg [pv (some (b,0))]::_) _:=new_s (o:=.cells #[pv (some (b,0))] bg (0,0)) s1 he
  refine c24 (blk_cell (i:=0) (T:=bg) (c:=[pv (some (b,0))]) rfl rfl s2) ?_
  obtain ⟨g2,a2,sub2⟩:=dX (i:=1) (A:=blk c bg [pv p]) rfl s2
  refine hp_storeCells _ 0 0 [pv p] _ (sub2 _ _ a2) (by simp) rfl ?_
  have s3:aG (_::blk c bg [pv (some (b,0))]::_) _:=obj_set (o':=.cells #[pv (some (b,0))] bg (0,0)) (i:=1) s2 rfl
  exact aX rfl (cc (l:=[_,_]) (bd [0,1] s3 rfl))
theorem sp_As (b c:Nat) (p:Ptr):Sp Tryz.prog uw [dw b,.iface bB (.pointer (some ⟨c,0,none⟩))] aC
    [(etB ET EF),blk c bg [pv p]] (fun r=>pa_ (r = true) [(etB ET EF),blk c bg [pv (some (b,0))]]):=by
  intro h st
  refine sim_errors_As _ _ ?_
  unfold wP
  refine fC false (en_0 b _) (di rfl ?_)
  refine fC false (en_1 c _) (di rfl ?_)
  unfold xt
  refine c8 fun e he=>?_
  have s2:aG (blk e bB [pv (some (c,0))]::_) _:=new_s (o:=.cells #[pv (some (c,0))] bB (0,0)) st he
  refine tC (rtV bB) (fun K h=>x15 K h e) ?_
  refine tC 22 (fun K h=>x10 K h) (dG rfl ?_)
  refine c22 (blk_cell (i:=0) (T:=bB) (c:=[pv (some (c,0))]) rfl rfl s2) (di rfl ?_)
  unfold xr
  refine tC (rtV bg) (fun K h=>x11 K h) ?_
  refine tC 22 (fun K h=>x12 K h) (dG rfl ?_)
  obtain ⟨g3,a3,sub3⟩:=dX (i:=1) (A:=etB ET EF) rfl s2
  refine ⟨rtV gx,⟨_,_,_,sub3 _ _ a3,fun i v hv=>?_⟩,?_⟩
  · rcases i with _ | i <;> first | exact hv | simp [cV] at hv
  refine tC true (fun K h=>x17 K h) (di rfl ?_)
  unfold sm
  refine cT [2,0,1] (rest:=[(etB ET EF)]) (sp_as b c e p) s2 rfl fun r h' s3=>?_
  obtain ⟨rfl,s4⟩:=bp.1 s3
  exact aX rfl (bd [1,0] s4 rfl)
abbrev firstOf (b:Nat):Ptr × Bool:=(some (b,0),true)
theorem sp_First (b:Nat):Sp Tryz.prog jZ [dw b] eH [(etB ET EF)] (fun r=>pa_ (r = firstOf b) [(etB ET EF)]):=by
  intro h st
  refine sim_trap_First _ ?_
  unfold uP
  refine pt st fun c h1 s1=>?_
  refine fC (.iface bB (.pointer (some ⟨c,0,none⟩))) (fun K h=>by kernel_rfl) ?_
  refine cT [1,0] (rest:=[]) (sp_As b c none) s1 rfl fun r h' s2=>?_
  obtain ⟨rfl,s3⟩:=bp.1 s2
  refine dG rfl ?_
  refine bk (some (b,0)) s3 (i:=1) rfl rfl rfl ?_
  unfold mG
  refine di rfl ?_
  refine bk (some (b,0)) s3 (i:=1) rfl rfl rfl ?_
  exact aX rfl (cc (l:=[_]) (bd [1] s3 rfl))
theorem sp_First_nil:Sp Tryz.prog jZ [Value.nilIface] eH [] (fun r=>pa_ (r = (none,false)) []):=by
  intro h st
  refine sim_trap_First _ ?_
  unfold uP
  refine pt st fun c h1 s1=>?_
  refine fC (.iface bB (.pointer (some ⟨c,0,none⟩))) (fun K h=>by kernel_rfl) ?_
  refine tJ (sp_As_nil _) s1 fun r h' hr s2=>?_
  subst hr
  refine di rfl ?_
  unfold mG
  exact dG rfl (aX rfl trivial)
theorem sp_Of (n:Int) (hn:n ≠ 0):Sp Tryz.prog kE [.int .i64 n] iz [] (fun r=>ex fun b=>pa_ (r = dw b) [trB b ⟨n,-1,⟨0,0,0,0,0⟩,.nilIface⟩]):=by
  intro h st
  refine sim_trap_Of _ ?_
  unfold sh_trap_Of
  refine di (by simpa using hn) ?_
  refine pt st fun b h1 s1=>?_
  refine fC (dw b) (fun K h=>by kernel_rfl) ?_
  exact ⟨b,aX rfl s1⟩
theorem sp_Of0:Sp Tryz.prog kE [.int .i64 0] iz [] (fun r=>pa_ (r = Value.nilIface) []):=by
  intro h st
  refine sim_trap_Of _ ?_
  unfold sh_trap_Of
  exact dG rfl (aX rfl st)
theorem sp_Code (b:Nat) (t:bX):Sp Tryz.prog ut [dw b] bh [(etB ET EF),trB b t] (fun r=>pa_ (r = t.fCode) [(etB ET EF),trB b t]):=by
  intro h st
  refine sim_trap_Code _ ?_
  unfold sh_trap_Code
  refine fC false (en_0 b _) (di rfl ?_)
  refine bM (i:=0) (sp_First b) rfl st fun r h' hr s2=>?_
  subst hr
  refine dG rfl (cE ?_)
  refine bk t.fCode s2 (i:=1) rfl rfl rfl ?_
  exact aX rfl s2
theorem sp_In (env:Int) (c:ah) (b:Nat) (t:bX):Sp Tryz.prog n_trap_In [.int .i64 env,.agg (ah.C c).toArray,dw b] iz [(etB ET EF),trB b t]
    (fun r=>ex fun e=>pa_ (r = dw e) [trB e ⟨t.fCode,env,c,dw b⟩,(etB ET EF),trB b t]):=by
  intro h st
  refine sim_trap_In _ _ _ ?_
  unfold sh_trap_In
  refine fC false (en_0 b _) (di rfl ?_)
  refine cT [] (rest:=[]) (sp_Code b t) st (List.append_nil _).symm fun r h' s2=>?_
  obtain ⟨rfl,s3⟩:=bp.1 s2
  refine fC ⟨t.fCode,env,c,dw b⟩ (fun K h=>by kernel_rfl) ?_
  refine pt s3 fun e h1 s4=>?_
  refine fC (dw e) (fun K h=>by kernel_rfl) ?_
  exact ⟨e,aX rfl s4⟩
theorem sp_Depth2 (b e:Nat) (t u:bX) (ht:t.fErr = dw e) (hu:u.fErr = Value.nilIface):Sp Tryz.prog wY [dw b] eB [(etB ET EF),trB b t,trB e u] (fun r=>pa_ (r = 2) [(etB ET EF),trB b t,trB e u]):=by
  intro h st
  refine sim_trap_Depth _ ?_
  unfold sh_trap_Depth
  refine bM (i:=0) (sp_First b) rfl st fun r h' hr s2=>?_
  subst hr
  refine ⟨fun s h=>(s = (0,some (b,0),true)∨s = (1,some (e,0),true)∨s = (2,none,false))∧aG [(etB ET EF),trB b t,trB e u] h,fun s _=>3 - s.1.toNat,⟨.inl rfl,s2⟩,?_⟩
  rintro s h1 ⟨rfl | rfl | rfl,s3⟩
  · unfold mH
    refine dG rfl (cE ?_)
    refine bk t.fErr s3 (i:=1) rfl rfl rfl ?_
    rw [ht]
    refine bM (i:=0) (sp_First e) rfl s3 fun r h' hr s4=>?_
    subst hr
    exact ⟨⟨.inr (.inl rfl),s4⟩,Nat.le_of_ble_eq_true rfl⟩
  · unfold mH
    refine dG rfl (cE ?_)
    refine bk u.fErr s3 (i:=2) rfl rfl rfl ?_
    rw [hu]
    refine tJ sp_First_nil s3 fun r h' hr s4=>?_
    subst hr
    exact ⟨⟨.inr (.inr rfl),s4⟩,Nat.le_of_ble_eq_true rfl⟩
  · unfold mH
    exact di rfl (aX rfl s3)
end Go.Proofs.YtemoifebbhoinaaGreatDoor
namespace Go.Proofs.YtemoifebbhoinaaGreatDoor
open Go Mb
set_option linter.unusedVariables false
def sh_strconv_Itoa (a0:Int) (K:ByteArray→Hp→Prop):Hp→Prop:=cl Tryz.prog jD [(.int .i64 a0)] dS fun r4=>K r4
theorem sim_strconv_Itoa (a0:Int) {K:ByteArray→Hp→Prop} {h:Hp} (H:sh_strconv_Itoa a0 K h):Ct Tryz.prog te #[(.int .i64 a0)] h fun v h'=>∃ r,v = dS r∧K r h':=aw [(.int .i64 a0)] Tryz.func256 c c c fun _=>M<|O c<|M<|J c<|aa<|Z H en_257 fun r4 _ H1=>O c<|aj<|Y ⟨r4,c,H1⟩
end Go.Proofs.YtemoifebbhoinaaGreatDoor
namespace Go.Proofs.YtemoifebbhoinaaGreatDoor
open Go Mb
set_option linter.unusedVariables false
def ms (a0:Int) (K:ByteArray→Hp→Prop):Hp→Prop:=br (decide (a0 < 10)) ( hpv Tryz.prog (Instr.sliceAt va (.string str_73df774b) (some (.int .i64 a0)) (some (.int .i64 (IntKind.i64.wrap (a0 + 1)))) none) dS fun (v8:ByteArray)=>K v8) ( hpv Tryz.prog (Instr.sliceAt va (.string str_e9752c08) (some (.int .i64 (IntKind.i64.wrap (a0 * 2)))) (some (.int .i64 (IntKind.i64.wrap ((IntKind.i64.wrap (a0 * 2)) + 2)))) none) dS fun (v14:ByteArray)=>K v14)
theorem sN (a0:Int) {K:ByteArray→Hp→Prop} {h:Hp} (H:ms a0 K h):Ct Tryz.prog jj #[(.int .i64 a0)] h fun v h'=>∃ r,v = dS r∧K r h':=aw [(.int .i64 a0)] Tryz.func259 c c c fun _=>M<|O c<|al<|M<|J c<|p (cC c c)<|ad<|av c H (fun k1 H2=>M<|J c<|J c<|p (bw c c)<|aa<|aS H2 (fq c c c c c) c fun v8 _ H3=>O c<|aj<|Y ⟨v8,c,H3⟩) fun k1 H2=>ao<|M<|J c<|p (v_mul c c)<|J c<|p (v_mul c c)<|p (bw c c)<|aa<|aS H2 (fq c c c c c) c fun v14 _ H4=>O c<|aj<|Y ⟨v14,c,H4⟩
def gl (a0:Int) (K:ByteArray→Hp→Prop) (b5:Nat) (s9:Int):Hp→Prop:=cl Tryz.prog rl [(.int .u64 s9)] eB fun r27=>hpv Tryz.prog (Instr.sliceAt wn (.pointer (some ⟨b5,0,none⟩)) (some (.int .i64 1)) (some (.int .i64 (IntKind.i64.wrap (1 + r27)))) none) R_Suint8 fun (v30:Sl)=>cl Tryz.prog pu [(sv v30),(.int .u64 s9)] R_ fun (_:Unit)=>br (decide (a0 < 0)) ( st (b5,0) [.int .u8 45]<|hpv Tryz.prog (Instr.sliceAt wn (.pointer (some ⟨b5,0,none⟩)) none (some (.int .i64 (IntKind.i64.wrap (1 + r27)))) none) R_Suint8 fun (v38:Sl)=>hpv Tryz.prog (convert 329 9 (sv v38)) dS fun (v39:ByteArray)=>K v39) ( hpv Tryz.prog (Instr.sliceAt wn (.pointer (some ⟨b5,0,none⟩)) (some (.int .i64 1)) (some (.int .i64 (IntKind.i64.wrap (1 + r27)))) none) R_Suint8 fun (v42:Sl)=>hpv Tryz.prog (convert 329 9 (sv v42)) dS fun (v43:ByteArray)=>K v43)
def jS (a0:Int) (a1:Int) (K:ByteArray→Hp→Prop):Hp→Prop:=br (a1 == 10) ( br ((decide (0 ≤ a0)) && (decide (a0 < 100))) ( cl Tryz.prog jj [(.int .i64 a0)] dS fun r19=>K r19) ( nw wn [.int .u8 0,.int .u8 0,.int .u8 0,.int .u8 0,.int .u8 0,.int .u8 0,.int .u8 0,.int .u8 0,.int .u8 0,.int .u8 0,.int .u8 0,.int .u8 0,.int .u8 0,.int .u8 0,.int .u8 0,.int .u8 0,.int .u8 0,.int .u8 0,.int .u8 0,.int .u8 0,.int .u8 0,.int .u8 0,.int .u8 0,.int .u8 0] fun b5=>br (decide (a0 < 0)) ( gl a0 K b5 (IntKind.u64.wrap (0 - (IntKind.u64.wrap a0)))) ( gl a0 K b5 (IntKind.u64.wrap a0)))) ( cl Tryz.prog qS [(sv (⟨none,0,0,none⟩:Sl)),(.int .u64 (IntKind.u64.wrap a0)),(.int .i64 a1),(.bool (decide (a0 < 0))),(.bool false)] R_Suint8_string fun r50=>K r50.2)
theorem pV (a0:Int) (a1:Int) {K:ByteArray→Hp→Prop} {h:Hp} (H:jS a0 a1 K h):Ct Tryz.prog gH #[(.int .i64 a0),(.int .i64 a1)] h fun v h'=>∃ r,v = dS r∧K r h':=aw [(.int .i64 a0),(.int .i64 a1)] Tryz.func258 c c c fun _=>M<|O c<|al<|M<|J c<|p (bO c c)<|ad<|av c H (fun k1 H2=>al<|M<|J c<|p (v_le c c)<|J c<|V c c (az _) (fun g3=>wv<|ai c)<|V c c (az _) (fun g4=>wv<|cC (aD c g4) c)<|p (bS c c)<|ad<|av c H2 (fun k5 H6=>M<|J c<|aa<|Z H6 en_259 fun r19 _ H7=>O c<|aj<|Y ⟨r19,c,H7⟩) fun k5 H6=>ao<|M<|aa<|to_alloc zero_326 c c H6 fun b5 _ H8=>ad<|M<|J c<|p (dV ⟨_,Tryz.underlying2⟩ Tryz.underlying22 c)<|O c<|eo (gl a0 K b5) (fun s9=>[(0,(.int .i64 a0)),(5,(.pointer (some ⟨b5,0,none⟩))),(6,(.int .u64 s9))]) (fun s9=>[]) (M<|J c<|p (cC c c)<|ad<|av c H8 (fun k21 H22=>ar<|J c<|p (v_neg c)<|O c<|cG (IntKind.u64.wrap (0 - (IntKind.u64.wrap a0))) H22 (.cons c<|.cons c<|.cons c<|.nil _) .slnil) fun k21 H22=>ao<|cG (IntKind.u64.wrap a0) H22 (.cons c<|.cons c<|.cons c<|.nil _) .slnil) fun s9 _ H10=>M<|J c<|aa<|Z H10 en_260 fun r27 _ H11=>O c<|M<|J c<|p (bw c c)<|aa<|aS H11 (fq c c c c c) c fun v30 _ H12=>J c<|aa<|Z H12 en_261 fun r32 _ H13=>ad<|al<|M<|J c<|p (cC c c)<|ad<|av c H13 (fun k14 H15=>M<|p (bz arr_326 c c (by decide))<|aa<|dy inf_5 c c c c c H15 fun _ H16=>ad<|M<|J c<|p (bw c c)<|aa<|aS H16 (fq c c c c c) c fun v38 _ H17=>aa<|aS H17 (x_convert c) c fun v39 _ H18=>O c<|aj<|Y ⟨v39,c,H18⟩) fun k14 H15=>ao<|M<|J c<|p (bw c c)<|aa<|aS H15 (fq c c c c c) c fun v42 _ H19=>aa<|aS H19 (x_convert c) c fun v43 _ H20=>O c<|aj<|Y ⟨v43,c,H20⟩) fun k1 H2=>ao<|M<|J c<|p (dV ⟨_,Tryz.underlying2⟩ Tryz.underlying22 c)<|J c<|J c<|p (cC c c)<|aa<|Z H2 en_262 fun r50 _ H23=>J c<|p (ak c c)<|p (ak c c)<|p (au c)<|O c<|M<|J c<|O c<|aj<|Y ⟨r50.2,c,H23⟩
def mO (a0:Int) (K:ByteArray→Hp→Prop):Hp→Prop:=cl Tryz.prog gH [(.int .i64 a0),(.int .i64 10)] dS fun r4=>K r4
theorem tI (a0:Int) {K:ByteArray→Hp→Prop} {h:Hp} (H:mO a0 K h):Ct Tryz.prog jD #[(.int .i64 a0)] h fun v h'=>∃ r,v = dS r∧K r h':=aw [(.int .i64 a0)] Tryz.func257 c c c fun _=>M<|O c<|M<|J c<|aa<|Z H en_258 fun r4 _ H1=>O c<|aj<|Y ⟨r4,c,H1⟩
end Go.Proofs.YtemoifebbhoinaaGreatDoor
namespace Go.Proofs.YtemoifebbhoinaaGreatDoor
open Go Mb
set_option linter.unusedVariables false
def pD (K:Bool→Hp→Prop):Hp→Prop:=cl Tryz.prog kE [(.int .i64 3)] iz fun r5=>cl Tryz.prog n_trap_In [(.int .i64 2),(.agg (ah.C (⟨1,2,0,0,0⟩:ah)).toArray),r5] iz fun r6=>cl Tryz.prog jZ [r6] eH fun r9=>hpv Tryz.prog (do eqGuard .eql 199 (.tmp 12) (.const Value.nilIface) r6 Value.nilIface; binOp .eql 199 r6 Value.nilIface:Sem Value) aC fun (v13:Bool)=>br (v13 || r9.1.isNone) ( K false) ( br r9.2 ( nn r9.1 fun q21=>ld (q21.1,q21.2 + 1) (cI .i64) fun x23=>br (x23 == 2) ( ld (q21.1,q21.2 + 2) ah.C fun x30=>br (ah.eqb x30 (⟨1,2,0,0,0⟩:ah)) ( ld (q21.1,q21.2 + 0) (cI .i64) fun x38=>br (x38 == 3) ( cl Tryz.prog ut [r6] bh fun r43=>br (r43 == 3) ( cl Tryz.prog wY [r6] eB fun r48=>br (r48 == 2) ( cl Tryz.prog kE [(.int .i64 3)] iz fun r53=>cl Tryz.prog nQ [r6,r53] aC fun r54=>br r54 ( cl Tryz.prog kE [(.int .i64 4)] iz fun r58=>cl Tryz.prog nQ [r6,r58] aC fun r59=>br (!r59) ( cln Tryz.prog (callMethod r6 "Error" #[]) dS fun (v64:ByteArray)=>hpv Tryz.prog (do eqGuard .eql 9 (.tmp 64) (.const (.string ou)) (.string v64) (.string ou); binOp .eql 9 (.string v64) (.string ou):Sem Value) aC fun (v65:Bool)=>br v65 ( cl Tryz.prog kE [(.int .i64 0)] iz fun r68=>hpv Tryz.prog (do eqGuard .eql 199 (.tmp 68) (.const Value.nilIface) r68 Value.nilIface; binOp .eql 199 r68 Value.nilIface:Sem Value) aC fun (v69:Bool)=>K v69) ( K false)) ( K false)) ( K false)) ( K false)) ( K false)) ( K false)) ( K false)) ( K false)) ( K false))
theorem wG {K:Bool→Hp→Prop} {h:Hp} (H:pD K h):Ct Tryz.prog lC #[] h fun v h'=>∃ r,v = aC r∧K r h':=aw [] Tryz.func223 c c c fun _=>M<|O c<|M<|p (aY c<|je 1 2)<|aa<|Z H xw fun r5 _ H1=>aa<|Z H1 en_186 fun r6 _ H2=>O c<|M<|J c<|aa<|Z H2 en_222 fun r9 _ H3=>J c<|p (ak c c)<|p (ak c c)<|p (au c)<|O c<|al<|M<|J c<|aa<|aS H3 (gu c c) c fun v13 _ H4=>J c<|V c c (aJ _) (fun g5=>wv<|ai c)<|V c c (aJ _) (fun g6=>wv<|cn Tryz.underlying252<|aD c g6)<|p (dm c c)<|ad<|av c H4 (fun k7 H8=>M<|O c<|aj<|Y ⟨false,c,H8⟩) fun k7 H8=>ao<|M<|J c<|J c<|V c c (az _) (fun g9=>wv<|ai c)<|bU H8 (fun k11 H12=>bF H12 fun q21 e13 H14=>F (D k11)<|R (aL<|aN (aD c k11)<|ap e13)<|F (D k11)<|R (ae fld_254_1 c)<|F (D k11)<|aW H14 bb c (fun _=>c) c fun x23 H15=>F (D k11)<|R (bO c c)<|p (aU c k11 c)<|J c<|V c c (az _) (fun g16=>wv<|ai<|aN c<|ap e13)<|V c c (az _) (fun g17=>wv<|aL<|aD c g17)<|V c c (az _) (fun g18=>wv<|ae fld_254_2<|aD c g18)<|bU H15 (fun k20 H21=>F (D k20)<|gT H21 eT (aD c k20) (fun _=>c) c fun x30 H22=>F (D k20)<|R (aY c<|je 1 2)<|F (D k20)<|R (v_eqA eqg_34 (eqr_34 9998 _ _) c c)<|p (aU c k20 c)<|J c<|V c c (az _) (fun g23=>wv<|ai<|aN c<|ap e13)<|V c c (az _) (fun g24=>wv<|aL<|aD c g24)<|V c c (az _) (fun g25=>wv<|ae vV<|aD c g25)<|bU H22 (fun k27 H28=>F (D k27)<|aW H28 ll (aD c k27) (fun _=>c) c fun x38 H29=>F (D k27)<|R (bO c c)<|p (aU c k27 c)<|J c<|V c c (az _) (fun g30=>wv<|ai c)<|bU H29 (fun k32 H33=>F (D k32)<|gw H33 en_208 (aT (aD c k32) bQ) c fun r43 _ H34=>F (D k32)<|R (bO c c)<|p (aU c k32 c)<|J c<|V c c (az _) (fun g35=>wv<|ai c)<|bU H34 (fun k37 H38=>F (D k37)<|gw H38 en_228 (aT (aD c k37) bQ) c fun r48 _ H39=>F (D k37)<|R (bO c c)<|p (aU c k37 c)<|J c<|V c c (az _) (fun g40=>wv<|ai c)<|bU H39 (fun k42 H43=>F (D k42)<|Z H43 xw fun r53 _ H44=>F (D k42)<|gw H44 en_149 (aT (aD c k42)<|aT c bQ) c fun r54 _ H45=>p (aU c k42 c)<|J c<|V c c (az _) (fun g46=>wv<|ai c)<|bU H45 (fun k48 H49=>F (D k48)<|Z H49 xw fun r58 _ H50=>F (D k48)<|gw H50 en_149 (aT (aD c k48)<|aT c bQ) c fun r59 _ H51=>F (D k48)<|R (cq c)<|p (aU c k48 c)<|J c<|V c c (az _) (fun g52=>wv<|ai c)<|bU H51 (fun k54 H55=>F (D k54)<|gg H55 (gf (vs:=[]) (aD c k54) c) c fun v64 _ H56=>F (D k54)<|aS H56 (gu c c) c fun v65 _ H57=>p (aU c k54 c)<|J c<|bU H57 (fun k59 H60=>F (D k59)<|Z H60 xw fun r68 _ H61=>F (D k59)<|aS H61 (gu c c) c fun v69 _ H62=>p (aU c k59 c)<|O c<|aj<|Y ⟨v69,c,H62⟩) fun k59 H60=>W (aR k59)<|W (aR k59)<|p (aq c k59 c)<|O c<|aj<|Y ⟨false,c,H60⟩) fun k54 H55=>W (aR k54)<|W (aR k54)<|p (aq c k54 c)<|J c<|W c<|W c<|p (aq c c c)<|O c<|aj<|Y ⟨false,c,H55⟩) fun k48 H49=>W (aR k48)<|W (aR k48)<|W (aR k48)<|p (aq c k48 c)<|J c<|W c<|W c<|W c<|p (aq c c c)<|J c<|W c<|W c<|p (aq c c c)<|O c<|aj<|Y ⟨false,c,H49⟩) fun k42 H43=>W (aR k42)<|W (aR k42)<|p (aq c k42 c)<|J c<|W c<|W c<|W c<|W c<|p (aq c c c)<|J c<|W c<|W c<|W c<|p (aq c c c)<|J c<|W c<|W c<|p (aq c c c)<|O c<|aj<|Y ⟨false,c,H43⟩) fun k37 H38=>W (aR k37)<|W (aR k37)<|p (aq c k37 c)<|J c<|W c<|W c<|W c<|p (aq c c c)<|J c<|W c<|W c<|W c<|W c<|p (aq c c c)<|J c<|W c<|W c<|W c<|p (aq c c c)<|J c<|W c<|W c<|p (aq c c c)<|O c<|aj<|Y ⟨false,c,H38⟩) fun k32 H33=>W (aR k32)<|W (aR k32)<|p (aq c k32 c)<|J c<|W c<|W c<|W c<|p (aq c c c)<|J c<|W c<|W c<|W c<|p (aq c c c)<|J c<|W c<|W c<|W c<|W c<|p (aq c c c)<|J c<|W c<|W c<|W c<|p (aq c c c)<|J c<|W c<|W c<|p (aq c c c)<|O c<|aj<|Y ⟨false,c,H33⟩) fun k27 H28=>W (aR k27)<|W (aR k27)<|p (aq c k27 c)<|J c<|W c<|W c<|W c<|p (aq c c c)<|J c<|W c<|W c<|W c<|p (aq c c c)<|J c<|W c<|W c<|W c<|p (aq c c c)<|J c<|W c<|W c<|W c<|W c<|p (aq c c c)<|J c<|W c<|W c<|W c<|p (aq c c c)<|J c<|W c<|W c<|p (aq c c c)<|O c<|aj<|Y ⟨false,c,H28⟩) fun k20 H21=>W (aR k20)<|W (aR k20)<|W (aR k20)<|p (aq c k20 c)<|J c<|W c<|W c<|W c<|W c<|W c<|p (aq c c c)<|J c<|W c<|W c<|W c<|p (aq c c c)<|J c<|W c<|W c<|W c<|p (aq c c c)<|J c<|W c<|W c<|W c<|p (aq c c c)<|J c<|W c<|W c<|W c<|W c<|p (aq c c c)<|J c<|W c<|W c<|W c<|p (aq c c c)<|J c<|W c<|W c<|p (aq c c c)<|O c<|aj<|Y ⟨false,c,H21⟩) fun k11 H12=>W (aR k11)<|W (aR k11)<|W (aR k11)<|W (aR k11)<|p (aq c k11 c)<|J c<|W c<|W c<|W c<|W c<|W c<|W c<|p (aq c c c)<|J c<|W c<|W c<|W c<|W c<|W c<|p (aq c c c)<|J c<|W c<|W c<|W c<|p (aq c c c)<|J c<|W c<|W c<|W c<|p (aq c c c)<|J c<|W c<|W c<|W c<|p (aq c c c)<|J c<|W c<|W c<|W c<|W c<|p (aq c c c)<|J c<|W c<|W c<|W c<|p (aq c c c)<|J c<|W c<|W c<|p (aq c c c)<|O c<|aj<|Y ⟨false,c,H12⟩
def pE (K:Bool→Hp→Prop):Hp→Prop:=cl Tryz.prog lC [] aC fun r1=>K r1
theorem wH {K:Bool→Hp→Prop} {h:Hp} (H:pE K h):Ct Tryz.prog lD #[] h fun v h'=>∃ r,v = aC r∧K r h':=aw [] Tryz.func213 c c c fun _=>M<|O c<|M<|aa<|Z H en_223 fun r1 _ H1=>O c<|aj<|Y ⟨r1,c,H1⟩
end Go.Proofs.YtemoifebbhoinaaGreatDoor
namespace Go.Proofs.YtemoifebbhoinaaGreatDoor
open Go Mb
variable {ET:Nat} {EF:Nat × Nat}
abbrev s3_:ByteArray:=⟨#[51]⟩
theorem sp_small3:Sp Tryz.prog jj [.int .i64 3] dS [] (fun r=>pa_ (r = s3_) []):=by
  intro h st
  refine sN _ ?_
  unfold ms
  exact dG rfl (fC s3_ (fun K h=>by kernel_rfl) (aX rfl st))
theorem sp_FormatInt3:Sp Tryz.prog gH [.int .i64 3,.int .i64 10] dS [] (fun r=>pa_ (r = s3_) []):=by
  intro h st
  refine pV _ _ ?_
  unfold jS
  refine dG rfl (dG rfl (tJ sp_small3 st fun r h' hr s2=>?_))
  exact aX hr s2
theorem sp_Itoa3':Sp Tryz.prog jD [.int .i64 3] dS [] (fun r=>pa_ (r = s3_) []):=by
  intro h st
  refine tI _ ?_
  unfold mO
  exact tJ sp_FormatInt3 st fun r h' hr s2=>aX hr s2
theorem sp_Itoa3:Sp Tryz.prog te [.int .i64 3] dS [] (fun r=>pa_ (r = s3_) []):=by
  intro h st
  refine sim_strconv_Itoa _ ?_
  unfold sh_strconv_Itoa
  exact tJ sp_Itoa3' st fun r h' hr s2=>aX hr s2
abbrev t3_:ByteArray:=⟨#[116,114,97,112,32,51]⟩
theorem sp_Error1 (b:Nat) (t:bX) (hc:t.fCode = 3) (ht:t.fErr = Value.nilIface):Sp Tryz.prog iR [pv (some (b,0))] dS [trB b t] (fun r=>pa_ (r = t3_) [trB b t]):=by
  intro h st
  refine rx _ ?_
  unfold ni
  refine di rfl (cE ?_)
  refine bk t.fCode st (i:=0) rfl rfl rfl ?_
  rw [hc]
  refine tJ sp_Itoa3 st fun r h' hr s2=>?_
  subst hr
  refine fC t3_ (fun K h=>by kernel_rfl) ?_
  refine bk t.fErr s2 (i:=0) rfl rfl rfl ?_
  rw [ht]
  refine fC false (fun K h=>by kernel_rfl) (di rfl ?_)
  exact aX rfl s2
theorem sp_Error2 (b e:Nat) (t u:bX) (hc:t.fCode = 3) (ht:t.fErr = dw e) (hd:u.fCode = 3) (hu:u.fErr = Value.nilIface):Sp Tryz.prog iR [pv (some (b,0))] dS [trB b t,trB e u] (fun r=>pa_ (r = ou) [trB b t,trB e u]):=by
  intro h st
  refine rx _ ?_
  unfold ni
  refine di rfl (cE ?_)
  refine bk t.fCode st (i:=0) rfl rfl rfl ?_
  rw [hc]
  refine tJ sp_Itoa3 st fun r h' hr s2=>?_
  subst hr
  refine fC t3_ (fun K h=>by kernel_rfl) ?_
  refine bk t.fErr s2 (i:=0) rfl rfl rfl ?_
  rw [ht]
  refine fC true (fun K h=>by kernel_rfl) (dG rfl ?_)
  refine bk t.fErr s2 (i:=0) rfl rfl rfl ?_
  rw [ht]
  refine cln_en (f:=iR) (vs:=[pv (some (e,0))]) (fun K h=>by kernel_rfl) ?_
  refine bM (i:=1) (sp_Error1 e u hd hu) rfl s2 fun r h' hr s3=>?_
  subst hr
  refine fC ⟨#[58,32,116,114,97,112,32,51]⟩ (fun K h=>by kernel_rfl) ?_
  refine fC ou (fun K h=>by kernel_rfl) ?_
  exact aX rfl s3
theorem star_ne {b d:Nat} {T T':TypeId} {c c':List Value} {l:List As} {h:Hp} (s:aG (blk b T c::blk d T' c'::l) h):b ≠ d:=by
  obtain ⟨h1,h2,dj,e,a,h3,h4,dj2,e2,a2,_⟩:=s
  rintro rfl
  have h1b:h1 b = some _:=a
  have h3b:h3 b = some _:=a2
  rcases dj b with x | x
  · rw [h1b] at x; cases x
  · rw [e2,un_left h3b] at x; cases x
theorem sp_Trap_Is (b d:Nat) (t w:bX):Sp Tryz.prog tc [pv (some (b,0)),dw d] aC [trB b t,trB d w] (fun r=>pa_ (r = (t.fCode == w.fCode)) [trB b t,trB d w]):=by
  intro h st
  refine sim_trap_Trap_Is _ _ ?_
  unfold sh_trap_Trap_Is
  refine fC (some (d,0),true) (fun K h=>by kernel_rfl) (dG rfl (dG rfl (dG rfl (cE (cE ?_)))))
  refine bk t.fCode st (i:=0) rfl rfl rfl ?_
  refine bk w.fCode st (i:=1) rfl rfl rfl ?_
  exact aX rfl st
theorem sp_Unwrap (b:Nat) (t:bX):Sp Tryz.prog nl [pv (some (b,0))] encV [trB b t] (fun r=>pa_ (r = t.fErr) [trB b t]):=by
  intro h st
  refine sim_trap_Trap_Unwrap _ ?_
  unfold ry
  refine di rfl (cE ?_)
  refine bk t.fErr st (i:=0) rfl rfl rfl ?_
  exact aX rfl st
theorem eq_traps {K:Bool→Hp→Prop} {a b n m:Nat} {t u:bX} {l:List As} {h:Hp} (s:aG (trB a t::trB b u::l) h) (k:K false h):hpv Tryz.prog (do eqGuard .eql 199 (.tmp n) (.tmp m) (dw a) (dw b); binOp .eql 199 (dw a) (dw b):Sem Value) aC K h:=by
  obtain ⟨g1,a1,sub1⟩:=dX (l:=trB a t::trB b u::l) (A:=trB a t) (i:=0) (by rfl) s
  obtain ⟨g2,a2,sub2⟩:=dX (l:=trB a t::trB b u::l) (A:=trB b u) (i:=1) (by rfl) s
  have q1:h a = some (.cells (bX.C t).toArray nF (0,0)):=sub1 _ _ a1
  have q2:h b = some (.cells (bX.C u).toArray nF (0,0)):=sub2 _ _ a2
  have hne:=star_ne s
  have e:(a == b) = false:=by simpa using hne
  constructor
  rw [y6,cW]
  refine x25 _ _ q1 q2 ?_
  rw [e]
  exact ⟨false,rfl,k⟩
theorem is_step {b d:Nat} {t w:bX} {l:List As} {h:Hp} {K:Bool→Hp→Prop} {Rec:Value→Hp→Prop} (st:aG (trB b t::trB d w::l) h)
    (h1:t.fCode = w.fCode→∀ h',aG (trB b t::trB d w::l) h'→K true h') (h0:t.fCode ≠ w.fCode→t.fErr = .nilIface→∀ h',aG (trB b t::trB d w::l) h'→K false h')
    (h2:t.fCode ≠ w.fCode→∀ e,t.fErr = dw e→∀ h',aG (trB b t::trB d w::l) h'→Rec (dw e) h') (hok:t.fErr = .nilIface∨∃ e,t.fErr = dw e):sj (dw d) true K Rec (dw b) h:=by
  unfold sj
  refine dG rfl (eq_traps st (di rfl ?_))
  refine fC (dw b,true) (fun K h=>by kernel_rfl) (dG rfl ?_)
  refine cln_en (f:=tc) (vs:=[pv (some (b,0)),dw d]) (fun K h=>by kernel_rfl) ?_
  refine cT [] (rest:=l) (sp_Trap_Is b d t w) st rfl fun r h' s2=>?_
  obtain ⟨rfl,s3⟩:=bp.1 s2
  by_cases e:t.fCode = w.fCode
  · exact dG (by simpa using e) (h1 e _ s3)
  · refine di (by simpa using e) ?_
    unfold sk
    refine fC (dw b,true) (fun K h=>by kernel_rfl) (dG rfl ?_)
    refine cln_en (f:=nl) (vs:=[pv (some (b,0))]) (fun K h=>by kernel_rfl) ?_
    refine bM (i:=0) (sp_Unwrap b t) rfl s3 fun r h' hr s4=>?_
    subst hr
    rcases hok with hn | ⟨x,hx⟩
    · rw [hn]
      refine fC true (en_00 _) (dG rfl (h0 e hn _ ?_))
      simpa using s4
    · rw [hx]
      refine fC false (en_0 x _) (di rfl (h2 e x hx _ ?_))
      simpa using s4
theorem sp_is1 (b d:Nat) (t w:bX) (hc:t.fCode = w.fCode) (hok:t.fErr = .nilIface∨∃ e,t.fErr = dw e):Sp Tryz.prog nP [dw b,dw d,.bool true] aC [trB b t,trB d w] (fun r=>pa_ (r = true) [trB b t,trB d w]):=by
  intro h st
  refine sim_errors_is _ _ _ ?_
  unfold wN
  refine ⟨fun s h=>s = dw b∧aG [trB b t,trB d w] h,fun _ _=>0,⟨rfl,st⟩,?_⟩
  rintro _ h1 ⟨rfl,s1⟩
  exact is_step s1 (fun _ h' s2=>aX rfl s2) (fun e=>absurd hc e) (fun e=>absurd hc e) hok
theorem sp_is2 (b e d:Nat) (t u w:bX) (ht:t.fErr = dw e) (hu:u.fErr = .nilIface) (hc:t.fCode ≠ w.fCode) (hd:u.fCode ≠ w.fCode) :
    Sp Tryz.prog nP [dw b,dw d,.bool true] aC [trB b t,trB e u,trB d w] (fun r=>pa_ (r = false) [trB b t,trB e u,trB d w]):=by
  intro h st
  refine sim_errors_is _ _ _ ?_
  unfold wN
  refine ⟨fun s h=>(s = dw b∨s = dw e)∧aG [trB b t,trB e u,trB d w] h,fun s _=>match s with | .iface _ (.pointer (some p))=>if p.block = b then 1 else 0 | _=>0,⟨.inl rfl,st⟩,?_⟩
  have hne:e ≠ b:=fun h=>(star_ne st) h.symm
  rintro _ h1 ⟨rfl | rfl,s1⟩
  · refine is_step (l:=[trB e u]) (bd [0,1] s1 rfl) (fun x=>absurd x hc) (fun _ x=>by rw [ht] at x; cases x) (fun _ x hx h' s2=>?_) (.inr ⟨e,ht⟩)
    rw [ht] at hx
    rw [← hx]
    exact ⟨⟨.inr rfl,bd [0,1] s2 rfl⟩,by show (if e = b then 1 else 0) < (if b = b then 1 else 0); rw [if_pos rfl,if_neg hne]; exact Nat.one_pos⟩
  · refine is_step (l:=[trB b t]) (bd [1,1] s1 rfl) (fun x=>absurd x hd) (fun _ _ h' s2=>aX rfl (bd [2,0] s2 rfl)) (fun _ x hx=>by rw [hu] at hx; cases hx) (.inl hu)
theorem sp_Is1 (b d:Nat) (t w:bX) (hc:t.fCode = w.fCode) (hok:t.fErr = .nilIface∨∃ e,t.fErr = dw e):Sp Tryz.prog nQ [dw b,dw d] aC [trB b t,trB d w] (fun r=>pa_ (r = true) [trB b t,trB d w]):=by
  intro h st
  refine sim_errors_Is _ _ ?_
  unfold wO
  refine fC false (en_0 b _) (dG rfl (fC false (en_0 d _) (di rfl ?_)))
  refine tC (rtV bg) (fun K h=>x7 d K h) ?_
  refine tC true (fun K h=>x13 K h) ?_
  refine cT [] (rest:=[]) (sp_is1 b d t w hc hok) st rfl fun r h' s2=>?_
  obtain ⟨rfl,s3⟩:=bp.1 s2
  exact aX rfl s3
theorem sp_Is2 (b e d:Nat) (t u w:bX) (ht:t.fErr = dw e) (hu:u.fErr = .nilIface) (hc:t.fCode ≠ w.fCode) (hd:u.fCode ≠ w.fCode) :
    Sp Tryz.prog nQ [dw b,dw d] aC [trB b t,trB e u,trB d w] (fun r=>pa_ (r = false) [trB b t,trB e u,trB d w]):=by
  intro h st
  refine sim_errors_Is _ _ ?_
  unfold wO
  refine fC false (en_0 b _) (dG rfl (fC false (en_0 d _) (di rfl ?_)))
  refine tC (rtV bg) (fun K h=>x7 d K h) ?_
  refine tC true (fun K h=>x13 K h) ?_
  refine cT [] (rest:=[]) (sp_is2 b e d t u w ht hu hc hd) st rfl fun r h' s2=>?_
  obtain ⟨rfl,s3⟩:=bp.1 s2
  exact aX rfl s3
theorem uA {α:Type} {A:α→As} {l:List As} {h:Hp} (s:aG (ex A::l) h):∃ x,aG (A x::l) h:=by
  obtain ⟨h1,h2,d,e,⟨x,a⟩,s2⟩:=s
  exact ⟨x,h1,h2,d,e,a,s2⟩
abbrev tr3:bX:=⟨3,-1,⟨0,0,0,0,0⟩,.nilIface⟩
abbrev tr4:bX:=⟨4,-1,⟨0,0,0,0,0⟩,.nilIface⟩
abbrev tr32 (e:Nat):bX:=⟨3,2,⟨1,2,0,0,0⟩,dw e⟩
theorem sp_begun1:Sp Tryz.prog lC [] aC [(etB ET EF)] (fun r=>pa_ (r = true) [(etB ET EF)]):=by
  intro h st
  refine wG ?_
  unfold pD
  refine cT [] (rest:=[(etB ET EF)]) (sp_Of 3 (by decide)) st rfl fun r h1 s1=>?_
  obtain ⟨e,x1⟩:=uA s1
  obtain ⟨rfl,y1⟩:=bp.1 x1
  refine cT [1,0] (rest:=[]) (sp_In 2 ⟨1,2,0,0,0⟩ e tr3) y1 rfl fun r h2 s2=>?_
  obtain ⟨b,x2⟩:=uA s2
  obtain ⟨rfl,y2⟩:=bp.1 x2
  refine bM (i:=1) (sp_First b) rfl y2 fun r h3 hr s3=>?_
  subst hr
  refine fC false (en_0 b _) (di rfl (dG rfl (cE ?_)))
  refine bk 2 s3 (i:=0) rfl rfl rfl (dG rfl ?_)
  refine ld_s ⟨1,2,0,0,0⟩ s3 (i:=0) rfl (fun j v hj=>?_) (dG rfl ?_)
  · rcases j with _ | _ | _ | _ | _ | j <;> first | exact hj | (simp [ah.C] at hj)
  refine bk 3 s3 (i:=0) rfl rfl rfl (dG rfl ?_)
  refine cT [1,0] (rest:=[_]) (sp_Code b (tr32 e)) s3 rfl fun r h4 s4=>?_
  obtain ⟨rfl,y4⟩:=bp.1 s4
  refine dG rfl ?_
  refine cT [] (rest:=[]) (sp_Depth2 b e (tr32 e) tr3 rfl rfl) y4 rfl fun r h5 s5=>?_
  obtain ⟨rfl,y5⟩:=bp.1 s5
  refine dG rfl ?_
  refine cT [] (rest:=[_,_,_]) (sp_Of 3 (by decide)) y5 rfl fun r h6 s6=>?_
  obtain ⟨d,x6⟩:=uA s6
  obtain ⟨rfl,y6⟩:=bp.1 x6
  refine cT [2,0] (rest:=[_,_]) (sp_Is1 b d (tr32 e) tr3 rfl (.inr ⟨e,rfl⟩)) y6 rfl fun r h7 s7=>?_
  obtain ⟨rfl,y7⟩:=bp.1 s7
  refine dG rfl ?_
  refine cT [] (rest:=[_,_,_,_]) (sp_Of 4 (by decide)) y7 rfl fun r h8 s8=>?_
  obtain ⟨f,x8⟩:=uA s8
  obtain ⟨rfl,y8⟩:=bp.1 x8
  refine cT [1,3,0] (rest:=[_,_]) (sp_Is2 b e f (tr32 e) tr3 tr4 rfl rfl (show (3:Int) ≠ 4 by decide) (show (3:Int) ≠ 4 by decide)) y8 rfl fun r h9 s9=>?_
  obtain ⟨rfl,y9⟩:=bp.1 s9
  refine dG rfl ?_
  refine cln_en (f:=iR) (vs:=[pv (some (b,0))]) (fun K h=>by kernel_rfl) ?_
  refine cT [] (rest:=[_,_,_]) (sp_Error2 b e (tr32 e) tr3 rfl rfl rfl rfl) y9 rfl fun r h10 s10=>?_
  obtain ⟨rfl,y10⟩:=bp.1 s10
  refine fC true (fun K h=>by kernel_rfl) (dG rfl ?_)
  refine tJ sp_Of0 y10 fun r h11 hr s11=>?_
  subst hr
  refine fC true (en_00 _) ?_
  exact aX rfl (cc (l:=[_,_,_,_]) s11)
end Go.Proofs.YtemoifebbhoinaaGreatDoor
namespace Go.Proofs.YtemoifebbhoinaaGreatDoor
open Go Mb
set_option linter.unusedVariables false
def sh_cell_New (a0:Int) (K:Ptr→Hp→Prop):Hp→Prop:=nw qD (od.C (⟨a0,0⟩:od)) fun b5=>K (some (b5,0))
theorem sim_cell_New (a0:Int) {K:Ptr→Hp→Prop} {h:Hp} (H:sh_cell_New a0 K h):Ct Tryz.prog tj #[(.int .u64 a0)] h fun v h'=>∃ r,v = pj r∧K r h':=aw [(.int .u64 a0)] Tryz.func209 c c c fun _=>M<|O c<|M<|J c<|p (aY c<|build_285_0 a0)<|aa<|ie c c c H fun b5 _ H1=>O c<|aj<|Y ⟨some (b5,0),c,H1⟩
def sh_cell_Cell_Up (a0:Ptr) (a1:Int) (K:(Int × Bool)→Hp→Prop):Hp→Prop:=br a0.isNone ( K (0,false)) ( nn a0 fun q9=>ld (q9.1,q9.2 + 1) (cI .i64) fun x11=>st (q9.1,q9.2 + 1) [.int .i64 (IntKind.i64.wrap (x11 + 1))]<|ld (q9.1,q9.2 + 0) (cI .u64) fun x18=>br (decide (x18 ≥ a1)) ( ld (q9.1,q9.2 + 0) (cI .u64) fun x24=>K (x24,false)) ( ld (q9.1,q9.2 + 0) (cI .u64) fun x28=>st (q9.1,q9.2 + 0) [.int .u64 (IntKind.u64.wrap (x28 + 1))]<|ld (q9.1,q9.2 + 0) (cI .u64) fun x35=>K (x35,true)))
theorem sim_cell_Cell_Up (a0:Ptr) (a1:Int) {K:(Int × Bool)→Hp→Prop} {h:Hp} (H:sh_cell_Cell_Up a0 a1 K h):Ct Tryz.prog oU #[(pv a0),(.int .u64 a1)] h fun v h'=>∃ r,v = bK r∧K r h':=aw [(pv a0),(.int .u64 a1)] Tryz.func211 c c c fun _=>M<|p (au c)<|O c<|al<|M<|J c<|p (cn Tryz.underlying266 c)<|ad<|av c H (fun k1 H2=>M<|p (au c)<|O c<|aj<|bv (bN c (bY c)<|bY c) ⟨(0,false),c,H2⟩) fun k1 H2=>ao<|M<|J c<|bF H2 fun q9 e3 H4=>p (aL<|aN c<|ap e3)<|p (ae sA c)<|aa<|aW H4 bb c (fun _=>c) c fun x11 H5=>p (bw c c)<|p (aL<|aN c<|ap e3)<|p (ae sA c)<|aa<|dy qU c c c c c H5 fun _ H6=>ad<|al<|M<|J (aN c<|ap e3)<|p (aL c)<|p (ae nW c)<|aa<|aW H6 cz c (fun _=>c) c fun x18 H7=>J c<|p (jN c c)<|ad<|av c H7 (fun k8 H9=>M<|J (aN c<|ap e3)<|p (aL c)<|p (ae nW c)<|aa<|aW H9 cz c (fun _=>c) c fun x24 H10=>p (au c)<|O c<|aj<|bv (bN c (bY c)<|bY c) ⟨(x24,false),c,H10⟩) fun k8 H9=>ao<|M<|J (aN c<|ap e3)<|p (aL c)<|p (ae nW c)<|aa<|aW H9 cz c (fun _=>c) c fun x28 H11=>p (bw c c)<|p (aL c)<|p (ae nW c)<|aa<|dy inf_22 c c c c c H11 fun _ H12=>ad<|M<|J (aN c<|ap e3)<|p (aL c)<|p (ae nW c)<|aa<|aW H12 cz c (fun _=>c) c fun x35 H13=>p (au c)<|O c<|aj<|bv (bN c (bY c)<|bY c) ⟨(x35,true),c,H13⟩
def ui (a0:Ptr) (K:Int→Hp→Prop):Hp→Prop:=br a0.isNone ( K 0) ( nn a0 fun q6=>ld (q6.1,q6.2 + 1) (cI .i64) fun x8=>st (q6.1,q6.2 + 1) [.int .i64 (IntKind.i64.wrap (x8 + 1))]<|ld (q6.1,q6.2 + 0) (cI .u64) fun x15=>K x15)
theorem sim_cell_Cell_Load (a0:Ptr) {K:Int→Hp→Prop} {h:Hp} (H:ui a0 K h):Ct Tryz.prog mf #[(pv a0)] h fun v h'=>∃ r,v = gS r∧K r h':=aw [(pv a0)] Tryz.func224 c c c fun _=>M<|O c<|al<|M<|J c<|p (cn Tryz.underlying266 c)<|ad<|av c H (fun k1 H2=>M<|O c<|aj<|Y ⟨0,c,H2⟩) fun k1 H2=>ao<|M<|J c<|bF H2 fun q6 e3 H4=>p (aL<|aN c<|ap e3)<|p (ae sA c)<|aa<|aW H4 bb c (fun _=>c) c fun x8 H5=>p (bw c c)<|p (aL<|aN c<|ap e3)<|p (ae sA c)<|aa<|dy qU c c c c c H5 fun _ H6=>ad<|M<|J (aN c<|ap e3)<|p (aL c)<|p (ae nW c)<|aa<|aW H6 cz c (fun _=>c) c fun x15 H7=>O c<|aj<|Y ⟨x15,c,H7⟩
def vB (a0:Ptr) (a1:Int) (a2:Int) (K:Bool→Hp→Prop):Hp→Prop:=br a0.isNone ( K false) ( nn a0 fun q10=>ld (q10.1,q10.2 + 1) (cI .i64) fun x12=>st (q10.1,q10.2 + 1) [.int .i64 (IntKind.i64.wrap (x12 + 1))]<|ld (q10.1,q10.2 + 0) (cI .u64) fun x19=>br (x19 != a1) ( K false) ( st (q10.1,q10.2 + 0) [.int .u64 a2]<|K true))
theorem sim_cell_Cell_Cas (a0:Ptr) (a1:Int) (a2:Int) {K:Bool→Hp→Prop} {h:Hp} (H:vB a0 a1 a2 K h):Ct Tryz.prog rn #[(pv a0),(.int .u64 a1),(.int .u64 a2)] h fun v h'=>∃ r,v = aC r∧K r h':=aw [(pv a0),(.int .u64 a1),(.int .u64 a2)] Tryz.func225 c c c fun _=>M<|O c<|al<|M<|J c<|p (cn Tryz.underlying266 c)<|ad<|av c H (fun k1 H2=>M<|O c<|aj<|Y ⟨false,c,H2⟩) fun k1 H2=>ao<|M<|J c<|bF H2 fun q10 e3 H4=>p (aL<|aN c<|ap e3)<|p (ae sA c)<|aa<|aW H4 bb c (fun _=>c) c fun x12 H5=>p (bw c c)<|p (aL<|aN c<|ap e3)<|p (ae sA c)<|aa<|dy qU c c c c c H5 fun _ H6=>ad<|al<|M<|J (aN c<|ap e3)<|p (aL c)<|p (ae nW c)<|aa<|aW H6 cz c (fun _=>c) c fun x19 H7=>J c<|p (nh c c)<|ad<|av c H7 (fun k8 H9=>M<|O c<|aj<|Y ⟨false,c,H9⟩) fun k8 H9=>ao<|M<|J (aN c<|ap e3)<|J c<|p (aL c)<|p (ae nW c)<|aa<|dy inf_22 c c c c c H9 fun _ H10=>ad<|M<|O c<|aj<|Y ⟨true,c,H10⟩
end Go.Proofs.YtemoifebbhoinaaGreatDoor
