/- Part of the proof of: The law PicksAll returns true for every input, and leaves its arguments as they were. -/
import Derived.Test.YtniiiakkdoiaiaaGreatDoorPicksAll12
set_option linter.all false
namespace Go.Proofs.YtniiiakkdoiaiaaGreatDoor
open Go Mb
namespace KK
def drain (c:Int):Nat→KK→KK
  | 0,k=>k
  | n + 1,k=>if 0 < mail k c then drain c n (post k c).2 else k
def turn1 (k:KK) (c:Int):KK × Bool:=if busy (drain c 5000 k) c = true then ((step (drain c 5000 k) c).2,true) else (drain c 5000 k,false)
def sweep:Nat→Int→KK→Bool→KK × Bool
  | 0,_,k,b=>(k,b)
  | n + 1,c,k,b=>sweep n (c + 1) (turn1 k c).1 ((turn1 k c).2 || b)
def anyBusy (k:KK):Nat→Int→Bool
  | 0,_=>false
  | n + 1,c=>busy k c || anyBusy k n (c + 1)
def settle (cores:Nat):Nat→KK→Bool × KK
  | 0,k=>(!anyBusy k cores 0,k)
  | n + 1,k=>if (sweep cores 0 k false).2 = false then (true,(sweep cores 0 k false).1) else settle cores n (sweep cores 0 k false).1
def lastA (core:Int) (es:List co):Nat→gy × Bool
  | 0=>(⟨0,0⟩,false)
  | n + 1=>match es[n]? with
    | some e=>if e.fCore = core then (e.fAnswer,decide (e.fEnd > 0)) else lastA core es n
    | none=>(⟨0,0⟩,false)
def run (k:KK) (core env:Int) (c:jE):(gy × Bool) × KK :=
  if (begin_ k core env c).1 = false then ((⟨0,0⟩,false),(begin_ k core env c).2)
  else if (settle 8 1000 (begin_ k core env c).2).1 = false then ((⟨0,0⟩,false),(settle 8 1000 (begin_ k core env c).2).2)
  else (lastA core (settle 8 1000 (begin_ k core env c).2).2.events (settle 8 1000 (begin_ k core env c).2).2.events.length,(settle 8 1000 (begin_ k core env c).2).2)
theorem access_now (k:KK) (c:Int) (x:KC):(access k c x).2.now = k.now:=by unfold access; split; rfl; split <;> rfl
theorem work_now (k:KK) (c:Int) (x:KC):(work k c x).now = k.now:=by
  unfold work
  split
  · exact access_now k c x
  · split
    · rfl
    · split
      · rfl
      · split <;> rfl
theorem step_now {k:KK} (h0:0 ≤ k.now) (h:k.now < 2 ^ 38) (c:Int):k.now ≤ (step k c).2.now∧(step k c).2.now ≤ k.now + 1:=by
  have hw:=wrapN h0 (by omega)
  unfold step
  split
  · exact ⟨Int.le_refl _,by show k.now ≤ k.now + 1; omega⟩
  · split
    · exact ⟨Int.le_refl _,by show k.now ≤ k.now + 1; omega⟩
    · show _ ≤ (work _ _ _).now∧(work _ _ _).now ≤ _
      rw [work_now]
      simp only [tick,hw]; omega
theorem post_now {k:KK} (h0:0 ≤ k.now) (h:k.now < 2 ^ 38) (c:Int):k.now ≤ (post k c).2.now∧(post k c).2.now ≤ k.now + 1:=by
  have hw:=wrapN h0 (by omega)
  unfold post
  split
  · exact ⟨Int.le_refl _,by show k.now ≤ k.now + 1; omega⟩
  · split
    · exact ⟨Int.le_refl _,by show k.now ≤ k.now + 1; omega⟩
    · show _ ≤ (tick k).now∧(tick k).now ≤ _
      simp only [tick,hw]; omega
theorem begin_now {k:KK} (h0:0 ≤ k.now) (h:k.now < 2 ^ 38) (core env:Int) (c:jE):k.now ≤ (begin_ k core env c).2.now∧(begin_ k core env c).2.now ≤ k.now + 1:=by
  have hw:=wrapN h0 (by omega)
  unfold begin_
  split
  · exact ⟨Int.le_refl _,by show k.now ≤ k.now + 1; omega⟩
  · simp only [hw]; omega
end KK
section
variable {x:Ptr} {l:List As}
theorem kern_n0 {k:KK} {h:Hp} (s:aP (dz x k::l) h):0 ≤ k.now∧k.events.length ≤ k.now:=by
  obtain ⟨z,_,_,ok,_⟩:=uh s
  exact ⟨ok.n0,ok.evn⟩
theorem settle_l3 {Rec:Bool × Int→Hp→Prop} {k:KK} {b:Bool} {c:Int} {h:Hp} (h0:0 ≤ c) (hc:c < 100) (hn:k.now + 5001 < 2 ^ 37) (st:aP (dz x k::l) h)
    (kk:∀ h',(KK.turn1 k c).1.now ≤ k.now + 5001→aP (dz x (KK.turn1 k c).1::l) h'→Rec ((KK.turn1 k c).2 || b,c + 1) h'):Lp (gl x Rec (b,c)) 0 h:=by
  have hj:∀ d h',KK.drain c 5000 k = d→d.now ≤ k.now + 5000→aP (dz x d::l) h'→eW x Rec (b,c) () h':=by
    intro d h' e hd s1
    unfold eW
    refine bZ (i:=0) (nZ x d c) rfl s1 fun r h2 hr s2=>?_
    refine bZ (i:=0) (nZ x d c) rfl s2 fun r' h3 hr' s3=>?_
    subst hr; subst hr'
    have hw:IntKind.i64.wrap (c + 1) = c + 1:=cf (by omega) (by omega)
    simp only [hw]
    refine bk (fun k2=>?_) (fun k2=>?_)
    · refine bZ (i:=0) (sp_kern_Step x d c (by omega)) rfl s3 fun r h4 hr s4=>?_
      have e2:KK.turn1 k c = ((KK.step d c).2,true):=by unfold KK.turn1; rw [e,if_pos k2]
      have n1:=kern_n0 s3
      have n2:=KK.step_now n1.1 (by omega) c
      rw [e2] at kk
      rw [k2]
      exact kk h4 (by show (KK.step d c).2.now ≤ _; omega) s4
    · have e2:KK.turn1 k c = (d,false):=by unfold KK.turn1; rw [e,if_neg (by rw [k2]; exact Bool.false_ne_true)]
      rw [e2] at kk
      rw [k2]
      exact kk h3 (by show d.now ≤ _; omega) s3
  refine Lp.intro (fun (m:Int) h=>∃ (n:Nat) (d:KK),m = 5000 - n∧n ≤ 5000∧KK.drain c n d = KK.drain c 5000 k∧d.now ≤ k.now + (5000 - n)∧aP (dz x d::l) h) (fun m _=>(5000 - m).toNat) ⟨5000,k,rfl,Nat.le_refl _,rfl,by omega,st⟩ ?_
  rintro m h1 ⟨n,d,rfl,hm,e,hd,s1⟩
  unfold gl
  refine bk (fun k1=>?_) (fun k1=>?_)
  · have hlt:0 < n:=by have:=of_decide_eq_true k1; omega
    obtain ⟨n,rfl⟩:∃ j,n = j + 1:=⟨n - 1,by omega⟩
    refine bZ (i:=0) (sp_kern_Mail x d c) rfl s1 fun r h2 hr s2=>?_
    subst hr
    refine bk (fun k2=>?_) (fun k2=>?_)
    · have k2':0 < KK.mail d c:=of_decide_eq_true k2
      refine bZ (i:=0) (sp_kern_Post x d c (by omega)) rfl s2 fun r h3 hr s3=>?_
      have n1:=kern_n0 s2
      have n2:=KK.post_now n1.1 (by omega) c
      have hw:IntKind.i64.wrap ((5000:Int) - ((n + 1:Nat):Int) + 1) = 5000 - (n:Int):=by rw [cf (by omega) (by omega)]; omega
      rw [hw]
      refine ⟨⟨n,_,rfl,by omega,?_,by omega,s3⟩,by show (5000 - (5000 - (n:Int))).toNat < (5000 - (5000 - ((n + 1:Nat):Int))).toNat; omega⟩
      rw [← e]
      exact (if_pos k2').symm
    · have k2':¬ 0 < KK.mail d c:=of_decide_eq_false k2
      exact hj d h2 (by rw [← e]; exact if_neg k2') (by omega) s2
  · have hz:n = 0:=by have:=of_decide_eq_false k1; omega
    subst hz
    exact hj d h1 e.symm (by omega) s1
theorem settle_l2 {Rec2:Int→Hp→Prop} {K:Bool→Hp→Prop} {k:KK} {m:Int} {cores:Nat} {h:Hp} (hc:cores ≤ 8) (hn:k.now + cores * 5001 < 2 ^ 37) (st:aP (dz x k::l) h)
    (kt:∀ h',(KK.sweep cores 0 k false).2 = false→(KK.sweep cores 0 k false).1.now ≤ k.now + cores * 5001→aP (dz x (KK.sweep cores 0 k false).1::l) h'→K true h')
    (kf:∀ h',(KK.sweep cores 0 k false).2 = true→(KK.sweep cores 0 k false).1.now ≤ k.now + cores * 5001→aP (dz x (KK.sweep cores 0 k false).1::l) h'→Rec2 (IntKind.i64.wrap (m + 1)) h') :
    Lp (gm x cores K Rec2 m) (false,0) h:=by
  refine Lp.intro (fun (s:Bool × Int) h=>∃ (n:Nat) (d:KK),s.2 = (cores:Int) - n∧n ≤ cores∧KK.sweep n s.2 d s.1 = KK.sweep cores 0 k false∧d.now ≤ k.now + (cores - n) * 5001∧aP (dz x d::l) h) (fun s _=>cores - s.2.toNat)
    ⟨cores,k,by simp,Nat.le_refl _,rfl,by simp,st⟩ ?_
  rintro ⟨b,c⟩ h1 ⟨n,d,e0,hm,e,hd,s1⟩
  simp only at e0 e
  subst e0
  unfold gm
  refine bk (fun k1=>?_) (fun k1=>?_)
  · have hlt:0 < n:=by have:=of_decide_eq_true k1; simp only at this; omega
    obtain ⟨n,rfl⟩:∃ j,n = j + 1:=⟨n - 1,by omega⟩
    have hq:(((cores:Int) - ((n + 1:Nat):Int)) * 5001) + 5001 = ((cores:Int) - n) * 5001:=by omega
    have hq2:((cores:Int) - n) * 5001 ≤ cores * 5001:=by omega
    refine settle_l3 (by omega) (by omega) (by omega) s1 fun h' hnow s2=>?_
    have hw:(cores:Int) - ((n + 1:Nat):Int) + 1 = (cores:Int) - n:=by omega
    refine ⟨⟨n,_,hw,by omega,?_,by omega,s2⟩,?_⟩
    · rw [← e]; rfl
    · show cores - ((cores:Int) - ((n + 1:Nat):Int) + 1).toNat < cores - ((cores:Int) - ((n + 1:Nat):Int)).toNat
      omega
  · have hz:n = 0:=by have:=of_decide_eq_false k1; simp only at this; omega
    subst hz
    have e':(d,b) = KK.sweep cores 0 k false:=e
    refine bk (fun k2=>?_) (fun k2=>?_)
    · have hb:b = false:=by simpa using k2
      rw [← e'] at kt
      exact kt h1 hb (by show d.now ≤ _; simpa using hd) s1
    · have hb:b = true:=by simpa using k2
      rw [← e'] at kf
      exact kf h1 hb (by show d.now ≤ _; simpa using hd) s1
theorem settle_l4 {K:Bool→Hp→Prop} {k:KK} {cores:Nat} {h:Hp} (hc:cores ≤ 8) (st:aP (dz x k::l) h)
    (kk:∀ h',aP (dz x k::l) h'→K (!KK.anyBusy k cores 0) h'):Lp (gj x cores K) 0 h:=by
  refine Lp.intro (fun (c:Int) h=>∃ n:Nat,c = (cores:Int) - n∧n ≤ cores∧KK.anyBusy k n c = KK.anyBusy k cores 0∧aP (dz x k::l) h) (fun s _=>cores - s.toNat) ⟨cores,by simp,Nat.le_refl _,rfl,st⟩ ?_
  rintro c h1 ⟨n,rfl,hm,e,s1⟩
  unfold gj
  refine bk (fun k1=>?_) (fun k1=>?_)
  · have hlt:0 < n:=by have:=of_decide_eq_true k1; omega
    obtain ⟨n,rfl⟩:∃ j,n = j + 1:=⟨n - 1,by omega⟩
    refine bZ (i:=0) (nZ x k _) rfl s1 fun r h2 hr s2=>?_
    subst hr
    have e':(KK.busy k ((cores:Int) - ((n + 1:Nat):Int)) || KK.anyBusy k n ((cores:Int) - ((n + 1:Nat):Int) + 1)) = KK.anyBusy k cores 0:=e
    refine bk (fun k2=>?_) (fun k2=>?_)
    · rw [k2,Bool.true_or] at e'
      rw [← e'] at kk
      exact kk h2 s2
    · rw [k2,Bool.false_or] at e'
      have hw:IntKind.i64.wrap ((cores:Int) - ((n + 1:Nat):Int) + 1) = (cores:Int) - ((n + 1:Nat):Int) + 1:=cf (by omega) (by omega)
      rw [hw]
      refine ⟨⟨n,by omega,by omega,e',s2⟩,by omega⟩
  · have hz:n = 0:=by have:=of_decide_eq_false k1; omega
    subst hz
    have e':false = KK.anyBusy k cores 0:=e
    rw [← e'] at kk
    exact kk h1 s1
end
theorem sp_Settle (x:Ptr) (k:KK) (cores most:Nat) (hc:cores ≤ 8) (hm:most ≤ 1000) (hn:k.now < 2 ^ 36):Sp Tryz.prog gN [pv x,.int .i64 cores,.int .i64 most] aK [dz x k]
    (fun r=>pa_ (r = (KK.settle cores most k).1∧(KK.settle cores most k).2.now ≤ k.now + most * 40008) [dz x (KK.settle cores most k).2]):=by
  intro h st
  refine ux _ _ _ ?_
  unfold nD
  refine Lp.intro (fun (m:Int) h=>∃ (n:Nat) (d:KK),m = (most:Int) - n∧n ≤ most∧KK.settle cores n d = KK.settle cores most k∧d.now ≤ k.now + (most - n) * 40008∧aP [dz x d] h) (fun m _=>most - m.toNat)
    ⟨most,k,by simp,Nat.le_refl _,rfl,by simp,st⟩ ?_
  rintro m h1 ⟨n,d,rfl,hnm,e,hd,s1⟩
  unfold jy
  have hq:((most:Int) - n) * 40008 ≤ 1000 * 40008:=by omega
  have hq2:(cores:Int) * 5001 ≤ 40008:=by omega
  refine bk (fun k1=>?_) (fun k1=>?_)
  · have hlt:0 < n:=by have:=of_decide_eq_true k1; omega
    obtain ⟨n,rfl⟩:∃ j,n = j + 1:=⟨n - 1,by omega⟩
    have e':(if (KK.sweep cores 0 d false).2 = false then (true,(KK.sweep cores 0 d false).1) else KK.settle cores n (KK.sweep cores 0 d false).1) = KK.settle cores most k:=e
    refine settle_l2 hc (by omega) s1 (fun h' hb hnow s2=>?_) (fun h' hb hnow s2=>?_)
    · rw [if_pos hb] at e'
      rw [← e']
      exact bi ⟨rfl,by show (KK.sweep cores 0 d false).1.now ≤ _; omega⟩ s2
    · rw [if_neg (by rw [hb]; decide)] at e'
      have hw:IntKind.i64.wrap ((most:Int) - ((n + 1:Nat):Int) + 1) = (most:Int) - n:=by rw [cf (by omega) (by omega)]; omega
      rw [hw]
      exact ⟨⟨n,_,rfl,by omega,e',by omega,s2⟩,by omega⟩
  · have hz:n = 0:=by have:=of_decide_eq_false k1; omega
    subst hz
    have e':(!KK.anyBusy d cores 0,d) = KK.settle cores most k:=e
    refine settle_l4 hc s1 fun h' s2=>?_
    rw [← e']
    exact bi ⟨rfl,by show d.now ≤ _; simpa using hd⟩ s2
theorem run_yes {k:KK} {core env:Int} {c:jE} {d e:KK} (h1:(KK.begin_ k core env c) = (true,d)) (h2:KK.settle 8 1000 d = (true,e)):KK.run k core env c = (KK.lastA core e.events e.events.length,e):=by
  unfold KK.run
  rw [h1]
  dsimp only
  rw [if_neg (by decide),h2]
  dsimp only
  rw [if_neg (by decide)]
theorem run_l1 {s:Sl} {es:List co} {l:List As} {core:Int} {K:gy × Bool→Hp→Prop} {h:Hp} (hb:es.length < 2 ^ 38) (st:aP (vE s es::l) h)
    (kk:∀ h',aP (vE s es::l) h'→K (KK.lastA core es es.length) h'):Lp (fZ core K s) (IntKind.i64.wrap ((s.len:Int) - 1),⟨0,0⟩) h:=by
  have hl:=(cq (j:=0) st rfl).1
  have hw0:IntKind.i64.wrap ((s.len:Int) - 1) = (es.length:Int) - 1:=by rw [hl,cf (by omega) (by omega)]
  rw [hw0]
  refine Lp.intro (fun (z:Int × gy) h=>∃ n:Nat,z = ((n:Int) - 1,⟨0,0⟩)∧n ≤ es.length∧KK.lastA core es n = KK.lastA core es es.length∧aP (vE s es::l) h) (fun z _=>(z.1 + 1).toNat) ⟨_,rfl,Nat.le_refl _,rfl,st⟩ ?_
  rintro _ h1 ⟨n,rfl,hn,e,s1⟩
  unfold fZ
  refine bk (fun k1=>?_) (fun k1=>?_)
  · have hlt:0 < n:=by have:=of_decide_eq_true k1; simp only at this; omega
    obtain ⟨n,rfl⟩:∃ j,n = j + 1:=⟨n - 1,by omega⟩
    have hn':n < es.length:=by omega
    have hi:((n + 1:Nat):Int) - 1 = (n:Int):=by omega
    simp only [hi]
    have e':(match es[n]? with
      | some e=>if e.fCore = core then (e.fAnswer,decide (e.fEnd > 0)) else KK.lastA core es n
      | none=>(⟨0,0⟩,false)) = KK.lastA core es es.length:=e
    rw [aO hn'] at e'
    simp only at e'
    refine dE s1 (j:=0) rfl (by omega) (by show (n:Int) < _; omega) fun q hq=>?_
    have lk:∀ {σ:Type} {enc:σ→List Value} {K:σ→Hp→Prop} (y:σ) (o:Nat),(∀ i v,(enc y)[i]? = some v→(es[n].C)[o + i]? = some v)→K y h1→ld (q.1,q.2 + Int.toNat (n:Int) * 16 + o) enc K h1:=by
      intro σ enc K y o he k
      exact eC (j:=0) (i:=n) (k:=o) y np s1 rfl hq (by simp) (aO hn') he k
    refine lk es[n].fCore 0 (fun i v hv=>?_) ?_
    · rcases i with _ | i <;> first | exact hv | simp [cI] at hv
    refine bk (fun k2=>?_) (fun k2=>?_)
    · have k2':es[n].fCore = core:=by simpa using k2
      rw [if_pos k2'] at e'
      have hA:∀ i v,(al.C es[n].fAnswer)[i]? = some v→(es[n].C)[10 + i]? = some v:=by
        intro i v hv
        rcases i with _ | _ | i <;> first | exact hv | simp [al.C] at hv
      have hE:∀ i v,((cI .i64) es[n].fEnd)[i]? = some v→(es[n].C)[9 + i]? = some v:=by
        intro i v hv
        rcases i with _ | i <;> first | exact hv | simp [cI] at hv
      refine ⟨lk _ 10 hA (lk _ 9 hE ?_),lk _ 9 hE (lk _ 10 hA ?_)⟩
      · rw [e']; exact kk h1 s1
      · rw [e']; exact kk h1 s1
    · have k2':¬ es[n].fCore = core:=by simpa using k2
      rw [if_neg k2'] at e'
      rw [cf (by omega) (by omega)]
      exact ⟨⟨n,rfl,by omega,e',s1⟩,by show ((n:Int) - 1 + 1).toNat < ((n:Int) + 1).toNat; omega⟩
  · have hz:n = 0:=by have:=of_decide_eq_false k1; simp only at this; omega
    subst hz
    have e':((⟨0,0⟩,false):gy × Bool) = KK.lastA core es es.length:=e
    rw [← e'] at kk
    exact kk h1 s1
theorem run_no {k:KK} {core env:Int} {c:jE} {d e:KK} (h1:(KK.begin_ k core env c) = (true,d)) (h2:KK.settle 8 1000 d = (false,e)):KK.run k core env c = ((⟨0,0⟩,false),e):=by
  unfold KK.run
  rw [h1]
  dsimp only
  rw [if_neg (by decide),h2]
  dsimp only
  rw [if_pos rfl]
theorem run_tail (x:Ptr) (k:KK) (core env:Int) (c:jE) (d:KK) (h1:KK.begin_ k core env c = (true,d)) (hn:d.now ≤ k.now + 1) (hk:k.now < 2 ^ 35) {h:Hp} (s1:aP [dz x d] h) :
    (cl Tryz.prog gN [(pv x),(.int .i64 8),(.int .i64 1000)] aK fun r20 =>
      br (!r20) ((fun r h'=>pa_ (r = (KK.run k core env c).1∧(KK.run k core env c).2.now ≤ k.now + 40008001) [dz x (KK.run k core env c).2] h') (⟨0,0⟩,false)) (
      cl Tryz.prog ic [(pv x)] eP fun r24 =>
      Lp (fZ core (fun r h'=>pa_ (r = (KK.run k core env c).1∧(KK.run k core env c).2.now ≤ k.now + 40008001) [dz x (KK.run k core env c).2] h') r24) ((IntKind.i64.wrap ((r24.len:Int) - 1)),(⟨0,0⟩:al)))) h:=by
  have c8:=sp_Settle x d 8 1000 (Nat.le_refl _) (Nat.le_refl _) (by omega)
  generalize hz:KK.settle 8 1000 d = z at c8
  obtain ⟨b,e⟩:=z
  refine bZ (i:=0) c8 rfl s1 fun r h2 hr s2=>?_
  obtain ⟨hr,hs⟩:=hr
  have hs':e.now ≤ d.now + 40008000:=hs
  have n2:=kern_n0 s2
  have hr':r = b:=hr
  rw [hr']
  cases b
  · rw [run_no h1 hz]
    exact dW rfl (bi ⟨rfl,by show e.now ≤ _; omega⟩ s2)
  · refine dJ rfl ?_
    refine cl_n (i:=0) (sp_kern_Events x _ (by show e.now < _; omega)) rfl s2 fun s h3 s3=>?_
    refine run_l1 (by show e.events.length < _; have:(e.events.length:Int) ≤ e.now:=n2.2; omega) s3 fun h4 s4=>?_
    rw [run_yes h1 hz]
    exact bi ⟨rfl,by show e.now ≤ _; omega⟩ (ct (l:=[_]) s4)
theorem sp_Run (x:Ptr) (k:KK) (core env:Int) (c:jE) (hn:k.now < 2 ^ 35):Sp Tryz.prog eG [pv x,.int .i64 core,.int .i64 env,.agg c.C.toArray] bz [dz x k]
    (fun r=>pa_ (r = (KK.run k core env c).1∧(KK.run k core env c).2.now ≤ k.now + 40008001) [dz x (KK.run k core env c).2]):=by
  intro h st
  have n0:=kern_n0 st
  have nb:=KK.begin_now n0.1 (by omega) core env c
  refine sim_messuagelaw16_Run _ _ _ _ ?_
  unfold qy
  refine bZ (i:=0) (sp_kern_Begin x k core env c (by omega)) rfl st fun r h1 hr s1=>?_
  subst hr
  refine bk (fun k1=>?_) (fun k1=>?_)
  · have k1':(KK.begin_ k core env c).1 = false:=by simpa using k1
    have e:KK.run k core env c = ((⟨0,0⟩,false),(KK.begin_ k core env c).2):=if_pos k1'
    rw [e]
    exact bi ⟨rfl,by show (KK.begin_ k core env c).2.now ≤ _; omega⟩ s1
  · have k1':(KK.begin_ k core env c).1 = true:=by simpa using k1
    exact run_tail x k core env c (KK.begin_ k core env c).2 (by rw [← k1']) (by omega) hn s1
end Go.Proofs.YtniiiakkdoiaiaaGreatDoor
namespace Go.Proofs.YtniiiakkdoiaiaaGreatDoor
open Go Mb
set_option linter.unusedVariables false
def errors_as_l2 (a1:Value) (a2:aT) (a3:Value) (K:Bool→Hp→Prop) (v48:Sl) (Rec25:Int→Hp→Prop) (s24:Int):Hp→Prop:=br (decide (s24 < (v48.len:Int))) ( ix v48 s24 fun q52=>ld (q52.1,q52.2 + Int.toNat s24 * 1) cV fun x53=>hpv Tryz.prog (do eqGuard .eql 171 (.tmp 54) (.const Value.nilIface) x53 Value.nilIface; binOp .eql 171 x53 Value.nilIface:Sem Value) aK fun (v55:Bool)=>br v55 ( Rec25 (IntKind.i64.wrap (s24 + 1))) ( cl Tryz.prog ud [x53,a1,(.agg (aT.C a2).toArray),a3] aK fun r60=>br r60 ( K true) ( Rec25 (IntKind.i64.wrap (s24 + 1))))) ( K false)
def wZ (a1:Value) (a2:aT) (a3:Value) (K:Bool→Hp→Prop) (Rec2:Value→Hp→Prop) (s1:Value) (s11:Unit):Hp→Prop:=hpv Tryz.prog (Instr.typeAssert s1 gg iY true) ge fun (v37:Value × Bool)=>br v37.2 ( cln Tryz.prog (callMethod v37.1 "Unwrap" #[]) encV fun (v41:Value)=>hpv Tryz.prog (do eqGuard .eql 171 (.tmp 42) (.const Value.nilIface) v41 Value.nilIface; binOp .eql 171 v41 Value.nilIface:Sem Value) aK fun (v43:Bool)=>br v43 ( K false) ( Rec2 v41)) ( hpv Tryz.prog (Instr.typeAssert s1 gg ir true) fS fun (v44:Value × Bool)=>br v44.2 ( cln Tryz.prog (callMethod v44.1 "Unwrap" #[]) R_Serror fun (v48:Sl)=>Lp (errors_as_l2 a1 a2 a3 K v48) 0) ( K false))
def wY (a1:Value) (a2:aT) (a3:Value) (K:Bool→Hp→Prop) (Rec2:Value→Hp→Prop) (s1:Value):Hp→Prop:=cln Tryz.prog (callFunc fY #[s1]) encV fun (v17:Value)=>cln Tryz.prog (callMethod v17 "AssignableTo" #[a3]) aK fun (v19:Bool)=>br v19 ( cln Tryz.prog (callFunc fe #[(.agg (aT.C a2).toArray)]) fz fun (v21:aT)=>cln Tryz.prog (callFunc da #[s1]) fz fun (v23:aT)=>cln Tryz.prog (callFunc fq #[(.agg (aT.C v21).toArray),(.agg (aT.C v23).toArray)]) R_ fun (v24:Unit)=>K true) ( hpv Tryz.prog (Instr.typeAssert s1 gg qm true) nr fun (v27:Value × Bool)=>br v27.2 ( cln Tryz.prog (callMethod v27.1 "As" #[a1]) aK fun (v34:Bool)=>br v34 ( K true) ( wZ a1 a2 a3 K Rec2 s1 ())) ( wZ a1 a2 a3 K Rec2 s1 ()))
def sh_errors_as (a0:Value) (a1:Value) (a2:aT) (a3:Value) (K:Bool→Hp→Prop):Hp→Prop:=Lp (wY a1 a2 a3 K) a0
set_option maxRecDepth 20000 in
theorem sim_errors_as (a0:Value) (a1:Value) (a2:aT) (a3:Value) {K:Bool→Hp→Prop} {h:Hp} (H:sh_errors_as a0 a1 a2 a3 K h):Ct Tryz.prog ud #[a0,a1,(.agg (aT.C a2).toArray),a3] h fun v h'=>∃ r,v = aK r∧K r h':=aD [a0,a1,(.agg (aT.C a2).toArray),a3] Tryz.func212 rfl rfl rfl fun _=>ah<|ac<|ak (cC (l:=(aT.C a2)) rfl rfl rfl fun b6=>aa (ag rfl) rfl<|ae<|aF<|bO (step:=wY a1 a2 a3 K) (fun s1=>[(0,s1),(1,a1),(3,a3),(6,(.pointer (some ⟨b6,0,none⟩)))]) (fun s1=>[bx b6 269 (aT.C a2)]) H (.cons rfl (.cons rfl (.cons rfl (.cons rfl (.nil _))))) (.cons_cons _ .slnil) (fun Rec2 s1 _ H3=>aF<|ah<|ah<|ac<|aa (ad rfl) rfl<|ak (fX H3 (rE (vs:=[s1]) rfl) rfl fun v17 _ H4=>aa (ad rfl) rfl<|ak (fX H4 (fW (vs:=[a3]) rfl rfl) rfl fun v19 _ H5=>ae<|aC rfl H5 (fun k6 H7=>ah<|ac<|bw (bP (k:=0) ag_269 rfl rfl rfl rfl) rfl<|ak (fX H7 (rE (vs:=[(.agg (aT.C a2).toArray)]) rfl) rfl fun v21 _ H8=>aa (ad rfl) rfl<|ak (fX H8 (rE (vs:=[s1]) rfl) rfl fun v23 _ H9=>ak (fX H9 (rE (vs:=[(.agg (aT.C v21).toArray),(.agg (aT.C v23).toArray)]) rfl) rfl fun v24 _ H10=>ae<|ah<|ac<|aa (ag rfl) rfl<|ae<|ao<|aw (az rfl (aE rfl)) ⟨true,rfl,H10⟩)))) (fun k6 H7=>av<|eB (wZ a1 a2 a3 K Rec2 s1) (fun s11=>[(0,s1),(1,a1),(3,a3),(6,(.pointer (some ⟨b6,0,none⟩)))]) (fun s11=>[bx b6 269 (aT.C a2)]) ( ah<|ac<|aa (ad rfl) rfl<|ak (be H7 (fU rfl) rfl fun v27 _ H39=>aa (ad rfl) rfl<|aa (aq rfl rfl) rfl<|aa (aq rfl rfl) rfl<|aa (ag rfl) rfl<|aa (ag rfl) rfl<|ae<|ah<|ac<|aa (ad rfl) rfl<|aa (ad rfl) rfl<|aj rfl rfl rfl (aA _) (fun g40=>wv (ad rfl)) rfl<|aj rfl rfl rfl (aA _) (fun g41=>wv (ad rfl)) rfl<|cc H39 (fun k43 H44=>aL rfl rfl rfl (congrArg Value.bool k43) (fX H44 (fW (vs:=[a1]) (aJ rfl k43) (ba (aJ rfl k43) bY)) rfl fun v34 _ H45=>aa (bd rfl k43 rfl) rfl<|ae<|aC rfl H45 (fun k46 H47=>ah<|ac<|aa (ag rfl) rfl<|ae<|ao<|aw (az rfl (aE rfl)) ⟨true,rfl,H47⟩) (fun k46 H47=>av<|cF () H47 (.cons rfl (.cons rfl (.cons rfl (.cons rfl (.nil _))))) (.cons_cons _ .slnil)))) (fun k43 H44=>am rfl rfl rfl (bc k43) rfl<|aa (ay rfl k43 rfl) rfl<|ae<|ev_no rfl rfl<|av<|cF () H44 (.cons rfl (.cons rfl (.cons rfl (.cons rfl (.nil _))))) (.cons_cons _ .slnil)))) (fun s11 _ H12=>ah<|ac<|aa (ad rfl) rfl<|ae<|aF<|ah<|ac<|ak (be H12 (fU rfl) rfl fun v37 _ H13=>aa (aq rfl rfl) rfl<|aa (aq rfl rfl) rfl<|ae<|aC rfl H13 (fun k14 H15=>ah<|ac<|aa (ag rfl) rfl<|ae<|ah<|ac<|aa (ad rfl) rfl<|ak (fX H15 (fW (vs:=[]) rfl rfl) rfl fun v41 _ H16=>aa (ag rfl) rfl<|ae<|ah<|ac<|aa (ad rfl) rfl<|ak (be H16 (gf rfl rfl) rfl fun v43 _ H17=>ae<|aC rfl H17 (fun k18 H19=>ah<|ac<|aa (ag rfl) rfl<|ae<|ao<|aw (az rfl (aE rfl)) ⟨false,rfl,H19⟩) (fun k18 H19=>av<|cT v41 H19 (.cons rfl (.cons rfl (.cons rfl (.cons rfl (.nil _))))) (.cons_cons _ .slnil))))) (fun k14 H15=>ah<|ac<|ak (be H15 (fU rfl) rfl fun v44 _ H20=>aa (aq rfl rfl) rfl<|aa (aq rfl rfl) rfl<|ae<|aC rfl H20 (fun k21 H22=>ah<|ac<|aa (ag rfl) rfl<|ae<|ah<|ah<|ac<|aa (ad rfl) rfl<|ak (fX H22 (fW (vs:=[]) rfl rfl) rfl fun v48 _ H23=>aa (dB rfl Tryz.underlying253 rfl) rfl<|aa (ad rfl) rfl<|ae<|aF<|bO (step:=errors_as_l2 a1 a2 a3 K v48) (fun s24=>[(1,a1),(3,a3),(6,(.pointer (some ⟨b6,0,none⟩))),(48,(sv v48)),(49,(.int .i64 (v48.len:Int))),(50,(.int .i64 s24))]) (fun s24=>[bx b6 269 (aT.C a2)]) H23 (.cons rfl (.cons rfl (.cons rfl (.cons rfl (.cons rfl (.cons rfl (.nil _))))))) (.cons_cons _ .slnil) (fun Rec25 s24 _ H26=>ah<|ac<|aa (cx rfl rfl) rfl<|ae<|ah<|aC rfl H26 (fun k27 H28=>av<|ah<|aF<|ah<|ac<|cw H28 fun q52 e29 h30 H31=>aa (bD slc_253 (aW rfl (bn e29)) rfl h30) rfl<|ak (bg H31 sc_171 rfl (fun _=>rfl) rfl fun x53 H32=>aa (ag rfl) rfl<|ae<|ah<|ah<|ac<|aa (ad rfl) rfl<|ak (be H32 (gf rfl rfl) rfl fun v55 _ H33=>ae<|aC rfl H33 (fun k34 H35=>bA<|ac<|aa (bI rfl rfl) rfl<|aa (ad rfl) rfl<|ae<|cT (IntKind.i64.wrap (s24 + 1)) H35 (.cons rfl (.cons rfl (.cons rfl (.cons rfl (.cons rfl (.cons rfl (.nil _))))))) (.cons_cons _ .slnil)) (fun k34 H35=>av<|ah<|ac<|aa (ad rfl) rfl<|aa (ad rfl) rfl<|bw (bP (k:=0) ag_269 rfl rfl rfl rfl) rfl<|aa (ad rfl) rfl<|ak (aB H35 en_212 rfl rfl fun r60 _ H36=>ae<|aC rfl H36 (fun k37 H38=>ah<|ac<|aa (ag rfl) rfl<|ae<|ao<|aw (az rfl (aE rfl)) ⟨true,rfl,H38⟩) (fun k37 H38=>av<|ac<|aa (bI rfl rfl) rfl<|aa (ad rfl) rfl<|ae<|cT (IntKind.i64.wrap (s24 + 1)) H38 (.cons rfl (.cons rfl (.cons rfl (.cons rfl (.cons rfl (.cons rfl (.nil _))))))) (.cons_cons _ .slnil))))))) (fun k27 H28=>bA<|ah<|ac<|aa (ag rfl) rfl<|ae<|ao<|aw (az rfl (aE rfl)) ⟨false,rfl,H28⟩)))) (fun k21 H22=>ah<|ac<|aa (ag rfl) rfl<|ae<|ah<|ac<|aa (ag rfl) rfl<|ae<|ao<|aw (az rfl (aE rfl)) ⟨false,rfl,H22⟩))))))))))
def rV (a0:Value) (a1:Value) (K:Bool→Hp→Prop) (v14:aT) (v26:Value) (s11:Unit):Hp→Prop:=cl Tryz.prog ud [a0,a1,(.agg (aT.C v14).toArray),v26] aK fun r41=>K r41
def xa (a0:Value) (a1:Value) (K:Bool→Hp→Prop) (v14:aT) (v16:Value) (s8:Unit):Hp→Prop:=cln Tryz.prog (callMethod v16 "Elem" #[]) encV fun (v26:Value)=>cln Tryz.prog (callMethod v26 "Kind" #[]) R_abi_Kind fun (v28:Int)=>br (v28 != 20) ( ld (0,0) cV fun x32=>cln Tryz.prog (callMethod v26 "Implements" #[x32]) aK fun (v33:Bool)=>br (!v33) ( hpv Tryz.prog (Instr.makeInterface uI (.string str_6ae768b9)) encV fun (v36:Value)=>nope) ( rV a0 a1 K v14 v26 ())) ( rV a0 a1 K v14 v26 ())
def xc (a0:Value) (a1:Value) (K:Bool→Hp→Prop) (s4:Unit):Hp→Prop:=cln Tryz.prog (callFunc da #[a1]) fz fun (v14:aT)=>cln Tryz.prog (callFunc iq #[(.agg (aT.C v14).toArray)]) encV fun (v16:Value)=>cln Tryz.prog (callMethod v16 "Kind" #[]) R_abi_Kind fun (v18:Int)=>br (!(v18 != 22)) ( cln Tryz.prog (callFunc eS #[(.agg (aT.C v14).toArray)]) aK fun (v22:Bool)=>br v22 ( hpv Tryz.prog (Instr.makeInterface uI (.string str_ae9b7a08)) encV fun (v24:Value)=>nope) ( xa a0 a1 K v14 v16 ())) ( hpv Tryz.prog (Instr.makeInterface uI (.string str_ae9b7a08)) encV fun (v24:Value)=>nope)
def wB (a0:Value) (a1:Value) (K:Bool→Hp→Prop):Hp→Prop:=hpv Tryz.prog (do eqGuard .eql 171 (.tmp 8) (.const Value.nilIface) a0 Value.nilIface; binOp .eql 171 a0 Value.nilIface:Sem Value) aK fun (v9:Bool)=>br v9 ( K false) ( hpv Tryz.prog (do eqGuard .eql 20 (.tmp 10) (.const Value.nilIface) a1 Value.nilIface; binOp .eql 20 a1 Value.nilIface:Sem Value) aK fun (v11:Bool)=>br v11 ( hpv Tryz.prog (Instr.makeInterface uI (.string str_53947bae)) encV fun (v12:Value)=>nope) ( xc a0 a1 K ()))
set_option maxRecDepth 20000 in
theorem sim_errors_As (a0:Value) (a1:Value) {K:Bool→Hp→Prop} {h:Hp} (H:wB a0 a1 K h):Ct Tryz.prog ue #[a0,a1] h fun v h'=>∃ r,v = aK r∧K r h':=aD [a0,a1] Tryz.func207 rfl rfl rfl fun _=>ah<|ac<|aa (ag rfl) rfl<|ae<|ah<|ah<|ac<|aa (ad rfl) rfl<|ak (be H (gf rfl rfl) rfl fun v9 _ H1=>ae<|aC rfl H1 (fun k2 H3=>ah<|ac<|aa (ag rfl) rfl<|ae<|ao<|aw (az rfl (aE rfl)) ⟨false,rfl,H3⟩) (fun k2 H3=>av<|eB (xc a0 a1 K) (fun s4=>[(0,a0),(1,a1)]) (fun s4=>[]) ( ah<|ac<|aa (ad rfl) rfl<|ak (be H3 (gf rfl rfl) rfl fun v11 _ H34=>ae<|aC rfl H34 (fun k35 H36=>ac<|ak (be H36 (gq rfl) rfl fun v12 _ H37=>evlNo H37)) (fun k35 H36=>av<|cF () H36 (.cons rfl (.cons rfl (.nil _))) .slnil))) (fun s4 _ H5=>ah<|ac<|aa (ad rfl) rfl<|ak (fX H5 (rE (vs:=[a1]) rfl) rfl fun v14 _ H6=>ak (aY (l:=(aT.C (⟨none,none,0⟩:aT))) zero_269 rfl rfl fun b5=>ak (aZ (k:=0) (vs:=(aT.C v14)) inf_269 rfl rfl rfl rfl rfl rfl rfl<|ae<|ah<|ac<|bw (bP (k:=0) ag_269 rfl rfl rfl rfl) rfl<|ak (fX H6 (rE (vs:=[(.agg (aT.C v14).toArray)]) rfl) rfl fun v16 _ H7=>aa (ag rfl) rfl<|ae<|eB (xa a0 a1 K v14 v16) (fun s8=>[(0,a0),(1,a1),(5,(.pointer (some ⟨b5,0,none⟩))),(6,v16)]) (fun s8=>[bx b5 269 (aT.C v14)]) ( ah<|ac<|aa (ad rfl) rfl<|ak (fX H7 (fW (vs:=[]) rfl rfl) rfl fun v18 _ H24=>aa (qk rfl rfl) rfl<|aa (ad rfl) rfl<|aj rfl rfl rfl (aS _) (fun g25=>cv (bP (k:=0) ag_269 rfl rfl rfl rfl)) rfl<|cc H24 (fun k27 H28=>aL rfl rfl rfl (congrArg Value.bool (cm k27)) (fX H28 (rE (vs:=[(.agg (aT.C v14).toArray)]) (ba (aJ rfl k27) bY)) rfl fun v22 _ H29=>aa (ay rfl (cm k27) rfl) rfl<|ae<|aC rfl H29 (fun k30 H31=>ac<|ak (be H31 (gq rfl) rfl fun v24 _ H32=>evlNo H32)) (fun k30 H31=>av<|cF () H31 (.cons rfl (.cons rfl (.cons rfl (.cons rfl (.nil _))))) (.cons_cons _ .slnil)))) (fun k27 H28=>am rfl rfl rfl (ci (bN k27)) rfl<|aa (bd rfl (bN k27) rfl) rfl<|ae<|lz rfl rfl<|ac<|ak (be H28 (gq rfl) rfl fun v24 _ H33=>evlNo H33)))) (fun s8 _ H9=>ah<|ac<|aa (ad rfl) rfl<|ak (fX H9 (fW (vs:=[]) rfl rfl) rfl fun v26 _ H10=>aa (ag rfl) rfl<|ae<|eB (rV a0 a1 K v14 v26) (fun s11=>[(0,a0),(1,a1),(5,(.pointer (some ⟨b5,0,none⟩))),(7,v26)]) (fun s11=>[bx b5 269 (aT.C v14)]) ( ah<|ac<|aa (ad rfl) rfl<|ak (fX H10 (fW (vs:=[]) rfl rfl) rfl fun v28 _ H14=>aa (qk rfl rfl) rfl<|aa (ad rfl) rfl<|aj rfl rfl rfl (aA _) (fun g15=>wv (ad rfl)) rfl<|cc H14 (fun k17 H18=>aL rfl rfl rfl (congrArg Value.bool k17) (bg H18 sc_223 rfl (fun _=>rfl) rfl fun x32 H19=>aL rfl rfl rfl (congrArg Value.bool k17) (fX H19 (fW (vs:=[x32]) (aJ rfl k17) rfl) rfl fun v33 _ H20=>aL rfl rfl rfl (congrArg Value.bool k17) (aQ (wv (cD rfl)) rfl<|aa (bd rfl k17 rfl) rfl<|ae<|aC rfl H20 (fun k21 H22=>ac<|ak (be H22 (gq rfl) rfl fun v36 _ H23=>evlNo H23)) (fun k21 H22=>av<|cF () H22 (.cons rfl (.cons rfl (.cons rfl (.cons rfl (.nil _))))) (.cons_cons _ .slnil)))))) (fun k17 H18=>am rfl rfl rfl (bc k17) rfl<|am rfl rfl rfl (bc k17) rfl<|am rfl rfl rfl (bc k17) rfl<|aa (ay rfl k17 rfl) rfl<|ae<|ev_no rfl rfl<|av<|cF () H18 (.cons rfl (.cons rfl (.cons rfl (.cons rfl (.nil _))))) (.cons_cons _ .slnil)))) (fun s11 _ H12=>ah<|ac<|aa (ad rfl) rfl<|aa (ad rfl) rfl<|bw (bP (k:=0) ag_269 rfl rfl rfl rfl) rfl<|aa (ad rfl) rfl<|ak (aB H12 en_212 rfl rfl fun r41 _ H13=>aa (ag rfl) rfl<|ae<|ao<|aw (az rfl (aE rfl)) ⟨r41,rfl,H13⟩)))))))))))
def errors_is_l2 (a1:Value) (a2:Bool) (K:Bool→Hp→Prop) (v43:Sl) (Rec26:Int→Hp→Prop) (s25:Int):Hp→Prop:=br (decide (s25 < (v43.len:Int))) ( ix v43 s25 fun q47=>ld (q47.1,q47.2 + Int.toNat s25 * 1) cV fun x48=>cl Tryz.prog nF [x48,a1,(.bool a2)] aK fun r52=>br r52 ( K true) ( Rec26 (IntKind.i64.wrap (s25 + 1)))) ( K false)
def rU (a1:Value) (a2:Bool) (K:Bool→Hp→Prop) (Rec2:Value→Hp→Prop) (s1:Value) (s12:Unit):Hp→Prop:=hpv Tryz.prog (Instr.typeAssert s1 gg iY true) ge fun (v32:Value × Bool)=>br v32.2 ( cln Tryz.prog (callMethod v32.1 "Unwrap" #[]) encV fun (v36:Value)=>hpv Tryz.prog (do eqGuard .eql 171 (.tmp 37) (.const Value.nilIface) v36 Value.nilIface; binOp .eql 171 v36 Value.nilIface:Sem Value) aK fun (v38:Bool)=>br v38 ( K false) ( Rec2 v36)) ( hpv Tryz.prog (Instr.typeAssert s1 gg ir true) fS fun (v39:Value × Bool)=>br v39.2 ( cln Tryz.prog (callMethod v39.1 "Unwrap" #[]) R_Serror fun (v43:Sl)=>Lp (errors_is_l2 a1 a2 K v43) 0) ( K false))
def errors_is_l3 (a1:Value) (a2:Bool) (K:Bool→Hp→Prop) (v43:Sl) (Rec60:Int→Hp→Prop) (s59:Int):Hp→Prop:=br (decide (s59 < (v43.len:Int))) ( ix v43 s59 fun q47=>ld (q47.1,q47.2 + Int.toNat s59 * 1) cV fun x48=>cl Tryz.prog nF [x48,a1,(.bool a2)] aK fun r52=>br r52 ( K true) ( Rec60 (IntKind.i64.wrap (s59 + 1)))) ( K false)
def wX (a1:Value) (a2:Bool) (K:Bool→Hp→Prop) (Rec2:Value→Hp→Prop) (s1:Value) (s46:Unit):Hp→Prop:=hpv Tryz.prog (Instr.typeAssert s1 gg iY true) ge fun (v32:Value × Bool)=>br v32.2 ( cln Tryz.prog (callMethod v32.1 "Unwrap" #[]) encV fun (v36:Value)=>hpv Tryz.prog (do eqGuard .eql 171 (.tmp 37) (.const Value.nilIface) v36 Value.nilIface; binOp .eql 171 v36 Value.nilIface:Sem Value) aK fun (v38:Bool)=>br v38 ( K false) ( Rec2 v36)) ( hpv Tryz.prog (Instr.typeAssert s1 gg ir true) fS fun (v39:Value × Bool)=>br v39.2 ( cln Tryz.prog (callMethod v39.1 "Unwrap" #[]) R_Serror fun (v43:Sl)=>Lp (errors_is_l3 a1 a2 K v43) 0) ( K false))
def rT (a1:Value) (a2:Bool) (K:Bool→Hp→Prop) (Rec2:Value→Hp→Prop) (s1:Value):Hp→Prop:=br a2 ( hpv Tryz.prog (do eqGuard .eql 171 (.tmp 16) (.tmp 17) s1 a1; binOp .eql 171 s1 a1:Sem Value) aK fun (v18:Bool)=>br v18 ( K true) ( hpv Tryz.prog (Instr.typeAssert s1 gg mb true) jD fun (v22:Value × Bool)=>br v22.2 ( cln Tryz.prog (callMethod v22.1 "Is" #[a1]) aK fun (v29:Bool)=>br v29 ( K true) ( rU a1 a2 K Rec2 s1 ())) ( rU a1 a2 K Rec2 s1 ()))) ( hpv Tryz.prog (Instr.typeAssert s1 gg mb true) jD fun (v22:Value × Bool)=>br v22.2 ( cln Tryz.prog (callMethod v22.1 "Is" #[a1]) aK fun (v29:Bool)=>br v29 ( K true) ( wX a1 a2 K Rec2 s1 ())) ( wX a1 a2 K Rec2 s1 ()))
def wz (a0:Value) (a1:Value) (a2:Bool) (K:Bool→Hp→Prop):Hp→Prop:=Lp (rT a1 a2 K) a0
set_option maxRecDepth 20000 in
theorem sim_errors_is (a0:Value) (a1:Value) (a2:Bool) {K:Bool→Hp→Prop} {h:Hp} (H:wz a0 a1 a2 K h):Ct Tryz.prog nF #[a0,a1,(.bool a2)] h fun v h'=>∃ r,v = aK r∧K r h':=aD [a0,a1,(.bool a2)] Tryz.func174 rfl rfl rfl fun _=>ah<|ac<|aa (ag rfl) rfl<|ae<|aF<|bO (step:=rT a1 a2 K) (fun s1=>[(0,s1),(1,a1),(2,(.bool a2))]) (fun s1=>[]) H (.cons rfl (.cons rfl (.cons rfl (.nil _)))) .slnil (fun Rec2 s1 _ H3=>aF<|ah<|ah<|ac<|aa (ad rfl) rfl<|aa (ad rfl) rfl<|aj rfl rfl rfl (aA _) (fun g4=>wv (ad rfl)) rfl<|aj rfl rfl rfl (aA _) (fun g5=>wv (ad rfl)) rfl<|cc H3 (fun k7 H8=>aL rfl rfl rfl (congrArg Value.bool k7) (be H8 (gf (aJ rfl k7) (aJ rfl k7)) rfl fun v18 _ H9=>aa (bd rfl k7 rfl) rfl<|ae<|aC rfl H9 (fun k10 H11=>ah<|ac<|aa (ag rfl) rfl<|ae<|ao<|aw (az rfl (aE rfl)) ⟨true,rfl,H11⟩) (fun k10 H11=>av<|eB (rU a1 a2 K Rec2 s1) (fun s12=>[(0,s1),(1,a1),(2,(.bool a2))]) (fun s12=>[]) ( ah<|ac<|aa (ad rfl) rfl<|ak (be H11 (fU rfl) rfl fun v22 _ H37=>aa (ad rfl) rfl<|aa (aq rfl rfl) rfl<|aa (aq rfl rfl) rfl<|aa (ag rfl) rfl<|aa (ag rfl) rfl<|ae<|ah<|ac<|aa (ad rfl) rfl<|aa (ad rfl) rfl<|aj rfl rfl rfl (aA _) (fun g38=>wv (ad rfl)) rfl<|aj rfl rfl rfl (aA _) (fun g39=>wv (ad rfl)) rfl<|cc H37 (fun k41 H42=>aL rfl rfl rfl (congrArg Value.bool k41) (fX H42 (fW (vs:=[a1]) (aJ rfl k41) (ba (aJ rfl k41) bY)) rfl fun v29 _ H43=>aa (bd rfl k41 rfl) rfl<|ae<|aC rfl H43 (fun k44 H45=>ah<|ac<|aa (ag rfl) rfl<|ae<|ao<|aw (az rfl (aE rfl)) ⟨true,rfl,H45⟩) (fun k44 H45=>av<|cF () H45 (.cons rfl (.cons rfl (.cons rfl (.nil _)))) .slnil))) (fun k41 H42=>am rfl rfl rfl (bc k41) rfl<|aa (ay rfl k41 rfl) rfl<|ae<|ev_no rfl rfl<|av<|cF () H42 (.cons rfl (.cons rfl (.cons rfl (.nil _)))) .slnil))) (fun s12 _ H13=>ah<|ac<|aa (ad rfl) rfl<|ae<|aF<|ah<|ac<|ak (be H13 (fU rfl) rfl fun v32 _ H14=>aa (aq rfl rfl) rfl<|aa (aq rfl rfl) rfl<|ae<|aC rfl H14 (fun k15 H16=>ah<|ac<|aa (ag rfl) rfl<|ae<|ah<|ac<|aa (ad rfl) rfl<|ak (fX H16 (fW (vs:=[]) rfl rfl) rfl fun v36 _ H17=>aa (ag rfl) rfl<|ae<|ah<|ac<|aa (ad rfl) rfl<|ak (be H17 (gf rfl rfl) rfl fun v38 _ H18=>ae<|aC rfl H18 (fun k19 H20=>ah<|ac<|aa (ag rfl) rfl<|ae<|ao<|aw (az rfl (aE rfl)) ⟨false,rfl,H20⟩) (fun k19 H20=>av<|cT v36 H20 (.cons rfl (.cons rfl (.cons rfl (.nil _)))) .slnil)))) (fun k15 H16=>ah<|ac<|ak (be H16 (fU rfl) rfl fun v39 _ H21=>aa (aq rfl rfl) rfl<|aa (aq rfl rfl) rfl<|ae<|aC rfl H21 (fun k22 H23=>ah<|ac<|aa (ag rfl) rfl<|ae<|ah<|ah<|ac<|aa (ad rfl) rfl<|ak (fX H23 (fW (vs:=[]) rfl rfl) rfl fun v43 _ H24=>aa (dB rfl Tryz.underlying253 rfl) rfl<|aa (ad rfl) rfl<|ae<|aF<|bO (step:=errors_is_l2 a1 a2 K v43) (fun s25=>[(1,a1),(2,(.bool a2)),(43,(sv v43)),(44,(.int .i64 (v43.len:Int))),(45,(.int .i64 s25))]) (fun s25=>[]) H24 (.cons rfl (.cons rfl (.cons rfl (.cons rfl (.cons rfl (.nil _)))))) .slnil (fun Rec26 s25 _ H27=>ah<|ac<|aa (cx rfl rfl) rfl<|ae<|ah<|aC rfl H27 (fun k28 H29=>av<|ah<|aF<|ah<|ac<|cw H29 fun q47 e30 h31 H32=>aa (bD slc_253 (aW rfl (bn e30)) rfl h31) rfl<|ak (bg H32 sc_171 rfl (fun _=>rfl) rfl fun x48 H33=>aa (ag rfl) rfl<|ae<|ah<|ac<|aa (ad rfl) rfl<|aa (ad rfl) rfl<|aa (ad rfl) rfl<|ak (aB H33 en_174 rfl rfl fun r52 _ H34=>ae<|aC rfl H34 (fun k35 H36=>ah<|ac<|aa (ag rfl) rfl<|ae<|ao<|aw (az rfl (aE rfl)) ⟨true,rfl,H36⟩) (fun k35 H36=>av<|ac<|aa (bI rfl rfl) rfl<|aa (ad rfl) rfl<|ae<|cT (IntKind.i64.wrap (s25 + 1)) H36 (.cons rfl (.cons rfl (.cons rfl (.cons rfl (.cons rfl (.nil _)))))) .slnil)))) (fun k28 H29=>bA<|ah<|ac<|aa (ag rfl) rfl<|ae<|ao<|aw (az rfl (aE rfl)) ⟨false,rfl,H29⟩)))) (fun k22 H23=>ah<|ac<|aa (ag rfl) rfl<|ae<|ah<|ac<|aa (ag rfl) rfl<|ae<|ao<|aw (az rfl (aE rfl)) ⟨false,rfl,H23⟩)))))))) (fun k7 H8=>am rfl rfl rfl (bc k7) rfl<|aa (ay rfl k7 rfl) rfl<|ae<|ev_no rfl rfl<|av<|eB (wX a1 a2 K Rec2 s1) (fun s46=>[(0,s1),(1,a1),(2,(.bool a2))]) (fun s46=>[]) ( ah<|ac<|aa (ad rfl) rfl<|ak (be H8 (fU rfl) rfl fun v22 _ H71=>aa (ad rfl) rfl<|aa (aq rfl rfl) rfl<|aa (aq rfl rfl) rfl<|aa (ag rfl) rfl<|aa (ag rfl) rfl<|ae<|ah<|ac<|aa (ad rfl) rfl<|aa (ad rfl) rfl<|aj rfl rfl rfl (aA _) (fun g72=>wv (ad rfl)) rfl<|aj rfl rfl rfl (aA _) (fun g73=>wv (ad rfl)) rfl<|cc H71 (fun k75 H76=>aL rfl rfl rfl (congrArg Value.bool k75) (fX H76 (fW (vs:=[a1]) (aJ rfl k75) (ba (aJ rfl k75) bY)) rfl fun v29 _ H77=>aa (bd rfl k75 rfl) rfl<|ae<|aC rfl H77 (fun k78 H79=>ah<|ac<|aa (ag rfl) rfl<|ae<|ao<|aw (az rfl (aE rfl)) ⟨true,rfl,H79⟩) (fun k78 H79=>av<|cF () H79 (.cons rfl (.cons rfl (.cons rfl (.nil _)))) .slnil))) (fun k75 H76=>am rfl rfl rfl (bc k75) rfl<|aa (ay rfl k75 rfl) rfl<|ae<|ev_no rfl rfl<|av<|cF () H76 (.cons rfl (.cons rfl (.cons rfl (.nil _)))) .slnil))) (fun s46 _ H47=>ah<|ac<|aa (ad rfl) rfl<|ae<|aF<|ah<|ac<|ak (be H47 (fU rfl) rfl fun v32 _ H48=>aa (aq rfl rfl) rfl<|aa (aq rfl rfl) rfl<|ae<|aC rfl H48 (fun k49 H50=>ah<|ac<|aa (ag rfl) rfl<|ae<|ah<|ac<|aa (ad rfl) rfl<|ak (fX H50 (fW (vs:=[]) rfl rfl) rfl fun v36 _ H51=>aa (ag rfl) rfl<|ae<|ah<|ac<|aa (ad rfl) rfl<|ak (be H51 (gf rfl rfl) rfl fun v38 _ H52=>ae<|aC rfl H52 (fun k53 H54=>ah<|ac<|aa (ag rfl) rfl<|ae<|ao<|aw (az rfl (aE rfl)) ⟨false,rfl,H54⟩) (fun k53 H54=>av<|cT v36 H54 (.cons rfl (.cons rfl (.cons rfl (.nil _)))) .slnil)))) (fun k49 H50=>ah<|ac<|ak (be H50 (fU rfl) rfl fun v39 _ H55=>aa (aq rfl rfl) rfl<|aa (aq rfl rfl) rfl<|ae<|aC rfl H55 (fun k56 H57=>ah<|ac<|aa (ag rfl) rfl<|ae<|ah<|ah<|ac<|aa (ad rfl) rfl<|ak (fX H57 (fW (vs:=[]) rfl rfl) rfl fun v43 _ H58=>aa (dB rfl Tryz.underlying253 rfl) rfl<|aa (ad rfl) rfl<|ae<|aF<|bO (step:=errors_is_l3 a1 a2 K v43) (fun s59=>[(1,a1),(2,(.bool a2)),(43,(sv v43)),(44,(.int .i64 (v43.len:Int))),(45,(.int .i64 s59))]) (fun s59=>[]) H58 (.cons rfl (.cons rfl (.cons rfl (.cons rfl (.cons rfl (.nil _)))))) .slnil (fun Rec60 s59 _ H61=>ah<|ac<|aa (cx rfl rfl) rfl<|ae<|ah<|aC rfl H61 (fun k62 H63=>av<|ah<|aF<|ah<|ac<|cw H63 fun q47 e64 h65 H66=>aa (bD slc_253 (aW rfl (bn e64)) rfl h65) rfl<|ak (bg H66 sc_171 rfl (fun _=>rfl) rfl fun x48 H67=>aa (ag rfl) rfl<|ae<|ah<|ac<|aa (ad rfl) rfl<|aa (ad rfl) rfl<|aa (ad rfl) rfl<|ak (aB H67 en_174 rfl rfl fun r52 _ H68=>ae<|aC rfl H68 (fun k69 H70=>ah<|ac<|aa (ag rfl) rfl<|ae<|ao<|aw (az rfl (aE rfl)) ⟨true,rfl,H70⟩) (fun k69 H70=>av<|ac<|aa (bI rfl rfl) rfl<|aa (ad rfl) rfl<|ae<|cT (IntKind.i64.wrap (s59 + 1)) H70 (.cons rfl (.cons rfl (.cons rfl (.cons rfl (.cons rfl (.nil _)))))) .slnil)))) (fun k62 H63=>bA<|ah<|ac<|aa (ag rfl) rfl<|ae<|ao<|aw (az rfl (aE rfl)) ⟨false,rfl,H63⟩)))) (fun k56 H57=>ah<|ac<|aa (ag rfl) rfl<|ae<|ah<|ac<|aa (ag rfl) rfl<|ae<|ao<|aw (az rfl (aE rfl)) ⟨false,rfl,H57⟩)))))))
def wA (a0:Value) (a1:Value) (K:Bool→Hp→Prop):Hp→Prop:=hpv Tryz.prog (do eqGuard .eql 171 (.tmp 6) (.const Value.nilIface) a0 Value.nilIface; binOp .eql 171 a0 Value.nilIface:Sem Value) aK fun (v7:Bool)=>br (!v7) ( hpv Tryz.prog (do eqGuard .eql 171 (.tmp 9) (.const Value.nilIface) a1 Value.nilIface; binOp .eql 171 a1 Value.nilIface:Sem Value) aK fun (v10:Bool)=>br v10 ( hpv Tryz.prog (do eqGuard .eql 171 (.tmp 12) (.tmp 13) a0 a1; binOp .eql 171 a0 a1:Sem Value) aK fun (v14:Bool)=>K v14) ( cln Tryz.prog (callFunc fY #[a1]) encV fun (v16:Value)=>cln Tryz.prog (callMethod v16 "Comparable" #[]) aK fun (v17:Bool)=>cl Tryz.prog nF [a0,a1,(.bool v17)] aK fun r21=>K r21)) ( hpv Tryz.prog (do eqGuard .eql 171 (.tmp 12) (.tmp 13) a0 a1; binOp .eql 171 a0 a1:Sem Value) aK fun (v14:Bool)=>K v14)
set_option maxRecDepth 20000 in
theorem sim_errors_Is (a0:Value) (a1:Value) {K:Bool→Hp→Prop} {h:Hp} (H:wA a0 a1 K h):Ct Tryz.prog nG #[a0,a1] h fun v h'=>∃ r,v = aK r∧K r h':=aD [a0,a1] Tryz.func133 rfl rfl rfl fun _=>ah<|ac<|aa (ag rfl) rfl<|ae<|ah<|ah<|ac<|aa (ad rfl) rfl<|ak (be H (gf rfl rfl) rfl fun v7 _ H1=>aa (ad rfl) rfl<|aj rfl rfl rfl (aS _) (fun g2=>wv (ad rfl)) rfl<|cc H1 (fun k4 H5=>aL rfl rfl rfl (congrArg Value.bool (cm k4)) (be H5 (gf (aJ rfl k4) rfl) rfl fun v10 _ H6=>aa (ay rfl (cm k4) rfl) rfl<|ae<|aC rfl H6 (fun k7 H8=>ah<|ac<|aa (ad rfl) rfl<|aa (ad rfl) rfl<|ak (be H8 (gf rfl rfl) rfl fun v14 _ H9=>aa (ag rfl) rfl<|ae<|ao<|aw (az rfl (aE rfl)) ⟨v14,rfl,H9⟩)) (fun k7 H8=>av<|ah<|ac<|aa (ad rfl) rfl<|ak (fX H8 (rE (vs:=[a1]) rfl) rfl fun v16 _ H10=>ak (fX H10 (fW (vs:=[]) rfl rfl) rfl fun v17 _ H11=>aa (ag rfl) rfl<|ae<|ah<|ac<|aa (ad rfl) rfl<|aa (ad rfl) rfl<|aa (ad rfl) rfl<|ak (aB H11 en_174 rfl rfl fun r21 _ H12=>aa (ag rfl) rfl<|ae<|ao<|aw (az rfl (aE rfl)) ⟨r21,rfl,H12⟩)))))) (fun k4 H5=>am rfl rfl rfl (ci (bN k4)) rfl<|aa (bd rfl (bN k4) rfl) rfl<|ae<|lz rfl rfl<|ah<|ac<|aa (ad rfl) rfl<|aa (ad rfl) rfl<|ak (be H5 (gf rfl rfl) rfl fun v14 _ H13=>aa (ag rfl) rfl<|ae<|ao<|aw (az rfl (aE rfl)) ⟨v14,rfl,H13⟩)))
end Go.Proofs.YtniiiakkdoiaiaaGreatDoor
namespace Go.Proofs.YtniiiakkdoiaiaaGreatDoor
open Go Mb
set_option linter.unusedVariables false
def sh_trap_Of (a0:Int) (K:Value→Hp→Prop):Hp→Prop:=br (a0 == 0) ( K Value.nilIface) ( nw nt (ck.C (⟨a0,(-1),(⟨0,0,0,0,0⟩:ap),Value.nilIface⟩:ck)) fun b7=>hpv Tryz.prog (Instr.makeInterface bt (.pointer (some ⟨b7,0,none⟩))) encV fun (v8:Value)=>K v8)
set_option maxRecDepth 20000 in
theorem sim_trap_Of (a0:Int) {K:Value→Hp→Prop} {h:Hp} (H:sh_trap_Of a0 K h):Ct Tryz.prog ko #[(.int .i64 a0)] h fun v h'=>∃ r,v = ip r∧K r h':=aD [(.int .i64 a0)] Tryz.func134 rfl rfl rfl fun _=>ah<|ac<|aa (ag rfl) rfl<|ae<|ah<|ah<|ac<|aa (ad rfl) rfl<|aa (bV rfl rfl) rfl<|ae<|aC rfl H (fun k1 H2=>ah<|ac<|aa (ag rfl) rfl<|ae<|ao<|aw (az rfl (aE rfl)) ⟨Value.nilIface,rfl,H2⟩) (fun k1 H2=>av<|ah<|ac<|aa (ad rfl) rfl<|aa (bo rfl (build_228_0_1 a0 (-1))) rfl<|ak (hH rfl rfl rfl H2 fun b7 _ H3=>ak (be H3 (gq rfl) rfl fun v8 _ H4=>aa (ag rfl) rfl<|ae<|ao<|aw (az rfl (aE rfl)) ⟨v8,rfl,H4⟩)))
def mC (K:(Ptr × Bool)→Hp→Prop) (b4:Nat) (s2:Bool):Hp→Prop:=br s2 ( K (none,false)) ( ld (b4,0) cP fun x13=>K (x13,true))
def uy (a0:Value) (K:(Ptr × Bool)→Hp→Prop):Hp→Prop:=nw bt [pv none] fun b4=>hpv Tryz.prog (Instr.makeInterface bL (.pointer (some ⟨b4,0,none⟩))) encV fun (v6:Value)=>cl Tryz.prog ue [a0,v6] aK fun r7=>br (!(!r7)) ( ld (b4,0) cP fun x10=>mC K b4 x10.isNone) ( mC K b4 true)
set_option maxRecDepth 20000 in
theorem sim_trap_First (a0:Value) {K:(Ptr × Bool)→Hp→Prop} {h:Hp} (H:uy a0 K h):Ct Tryz.prog jO #[a0] h fun v h'=>∃ r,v = eH r∧K r h':=aD [a0] Tryz.func202 rfl rfl rfl fun _=>ah<|ac<|aa (ag rfl) rfl<|aa (ag rfl) rfl<|ae<|ah<|ac<|ak (to_alloc zero_226 rfl rfl H fun b4 _ H1=>ae<|ah<|eB (mC K b4) (fun s2=>[(4,(.pointer (some ⟨b4,0,none⟩))),(12,(.bool s2))]) (fun s2=>[]) ( ac<|aa (ad rfl) rfl<|ak (be H1 (gq rfl) rfl fun v6 _ H7=>ak (aB H7 en_207 rfl rfl fun r7 _ H8=>aa (cD rfl) rfl<|aa (ad rfl) rfl<|cc H8 (fun k10 H11=>aL rfl rfl rfl (congrArg Value.bool (cm k10)) (bg H11 sc_226 rfl (fun _=>rfl) rfl fun x10 H12=>aL rfl rfl rfl (congrArg Value.bool (cm k10)) (aQ (wv (cA Tryz.underlying226 rfl)) rfl<|aa (ay rfl (cm k10) rfl) rfl<|ae<|cF x10.isNone H12 (.cons rfl (.cons rfl (.nil _))) .slnil))) (fun k10 H11=>am rfl rfl rfl (ci (bN k10)) rfl<|am rfl rfl rfl (ci (bN k10)) rfl<|aa (bd rfl (bN k10) rfl) rfl<|ae<|cF true H11 (.cons rfl (.cons rfl (.nil _))) .slnil)))) (fun s2 _ H3=>aC rfl H3 (fun k4 H5=>ah<|ac<|aa (ag rfl) rfl<|aa (ag rfl) rfl<|ae<|ao<|aw (ce rfl (aE rfl) (aE rfl)) ⟨(none,false),rfl,H5⟩) (fun k4 H5=>av<|ah<|ac<|ak (bg H5 sc_226 rfl (fun _=>rfl) rfl fun x13 H6=>aa (ag rfl) rfl<|aa (ag rfl) rfl<|ae<|ao<|aw (ce rfl (aE rfl) (aE rfl)) ⟨(x13,true),rfl,H6⟩))))
def sh_trap_Code (a0:Value) (K:Int→Hp→Prop):Hp→Prop:=hpv Tryz.prog (do eqGuard .eql 171 (.tmp 5) (.const Value.nilIface) a0 Value.nilIface; binOp .eql 171 a0 Value.nilIface:Sem Value) aK fun (v6:Bool)=>br v6 ( K 0) ( cl Tryz.prog jO [a0] eH fun r9=>br r9.2 ( nn r9.1 fun q14=>ld (q14.1,q14.2 + 0) (cI .i64) fun x16=>K x16) ( K 9))
set_option maxRecDepth 20000 in
theorem sim_trap_Code (a0:Value) {K:Int→Hp→Prop} {h:Hp} (H:sh_trap_Code a0 K h):Ct Tryz.prog ua #[a0] h fun v h'=>∃ r,v = bv r∧K r h':=aD [a0] Tryz.func189 rfl rfl rfl fun _=>ah<|ac<|aa (ag rfl) rfl<|ae<|ah<|ah<|ac<|aa (ad rfl) rfl<|ak (be H (gf rfl rfl) rfl fun v6 _ H1=>ae<|aC rfl H1 (fun k2 H3=>ah<|ac<|aa (ag rfl) rfl<|ae<|ao<|aw (az rfl (aE rfl)) ⟨0,rfl,H3⟩) (fun k2 H3=>av<|ah<|ah<|ac<|aa (ad rfl) rfl<|ak (aB H3 en_202 rfl rfl fun r9 _ H4=>aa (ad rfl) rfl<|aa (aq rfl rfl) rfl<|aa (aq rfl rfl) rfl<|aa (ag rfl) rfl<|aa (ag rfl) rfl<|ae<|ah<|ac<|aa (ad rfl) rfl<|ae<|aC rfl H4 (fun k5 H6=>ah<|ac<|aa (ad rfl) rfl<|bQ H6 fun q14 e7 H8=>aa (aV (aW rfl (ax e7))) rfl<|aa (an vu rfl) rfl<|ak (bg H8 ov rfl (fun _=>rfl) rfl fun x16 H9=>aa (ag rfl) rfl<|ae<|ao<|aw (az rfl (aE rfl)) ⟨x16,rfl,H9⟩)) (fun k5 H6=>av<|ah<|ac<|aa (ag rfl) rfl<|ae<|ao<|aw (az rfl (aE rfl)) ⟨9,rfl,H6⟩))))
def sh_trap_In (a0:Int) (a1:ap) (a2:Value) (K:Value→Hp→Prop):Hp→Prop:=hpv Tryz.prog (do eqGuard .eql 171 (.tmp 7) (.const Value.nilIface) a2 Value.nilIface; binOp .eql 171 a2 Value.nilIface:Sem Value) aK fun (v8:Bool)=>br v8 ( K Value.nilIface) ( cl Tryz.prog ua [a2] bv fun r10=>hpv Tryz.prog (Instr.build nt #[(0,(.int .i64 r10)),(1,(.int .i64 a0)),(2,(.agg (ap.C a1).toArray)),(3,a2)]) R_trap_Trap fun (v14:ck)=>nw nt (ck.C v14) fun b15=>hpv Tryz.prog (Instr.makeInterface bt (.pointer (some ⟨b15,0,none⟩))) encV fun (v16:Value)=>K v16)
set_option maxRecDepth 20000 in
theorem sim_trap_In (a0:Int) (a1:ap) (a2:Value) {K:Value→Hp→Prop} {h:Hp} (H:sh_trap_In a0 a1 a2 K h):Ct Tryz.prog n_trap_In #[(.int .i64 a0),(.agg (ap.C a1).toArray),a2] h fun v h'=>∃ r,v = ip r∧K r h':=aD [(.int .i64 a0),(.agg (ap.C a1).toArray),a2] Tryz.func168 rfl rfl rfl fun _=>ah<|ac<|ak (cC (l:=(ap.C a1)) rfl rfl rfl fun b4=>aa (ag rfl) rfl<|ae<|ah<|ah<|ac<|aa (ad rfl) rfl<|ak (be H (gf rfl rfl) rfl fun v8 _ H1=>ae<|aC rfl H1 (fun k2 H3=>ah<|ac<|aa (ag rfl) rfl<|ae<|ao<|aw (az rfl (aE rfl)) ⟨Value.nilIface,rfl,H3⟩) (fun k2 H3=>av<|ah<|bC (n:=9) [bx b4 27 (ap.C a1)] cy rfl (.cons_cons _ .slnil)<|ai (i:=0) (fun _ _ _ _=>id) rfl (by kernel_rfl) rfl (ve (ad rfl))<|ai (i:=2) (fun _ _ _ _=>id) rfl (by kernel_rfl) rfl (ve (ad rfl))<|ai (i:=3) (fun _ _ _ _=>id) rfl (by kernel_rfl) rfl (ef (k:=0) fw rfl rfl rfl rfl)<|ai (i:=4) (fun _ _ _ _=>id) rfl (by kernel_rfl) rfl (ve (ad rfl))<|bh (i:=1) (by kernel_rfl) (aI rfl rfl (aB H3 en_189 rfl rfl fun r10 _ H4=>⟨(.cons_cons _ .slnil),bh (i:=5) (by kernel_rfl) (aI rfl rfl (be H4 (x_build (vs:=[(.int .i64 r10),(.int .i64 a0),(.agg (ap.C a1).toArray),a2]) rfl) rfl fun v14 _ H5=>⟨(.cons_cons _ .slnil),bh (i:=6) (by kernel_rfl) (aI rfl rfl (hH rfl rfl rfl H5 fun b15 _ H6=>⟨(.cons_cons _ .slnil),bh (i:=7) (by kernel_rfl) (aI rfl rfl (be H6 (gq rfl) rfl fun v16 _ H7=>⟨(.cons_cons _ .slnil),ai (i:=8) (fun _ _ _ _=>id) rfl (by kernel_rfl) rfl (ve (ag rfl))<|bf (by kernel_rfl)<|ao<|aw (az rfl (aE rfl)) ⟨v16,rfl,H7⟩⟩))⟩))⟩))⟩)))))
def mD (K:Int→Hp→Prop) (Rec3:(Int × Ptr × Bool)→Hp→Prop) (s2:Int × Ptr × Bool):Hp→Prop:=br s2.2.2 ( nn s2.2.1 fun q14=>ld (q14.1,q14.2 + 7) cV fun x16=>cl Tryz.prog jO [x16] eH fun r17=>Rec3 ((IntKind.i64.wrap (s2.1 + 1)),r17.1,r17.2)) ( K s2.1)
def sh_trap_Depth (a0:Value) (K:Int→Hp→Prop):Hp→Prop:=cl Tryz.prog jO [a0] eH fun r8=>Lp (mD K) (0,r8.1,r8.2)
set_option maxRecDepth 20000 in
theorem sim_trap_Depth (a0:Value) {K:Int→Hp→Prop} {h:Hp} (H:sh_trap_Depth a0 K h):Ct Tryz.prog wJ #[a0] h fun v h'=>∃ r,v = dO r∧K r h':=aD [a0] Tryz.func208 rfl rfl rfl fun _=>ah<|ac<|aa (ag rfl) rfl<|ae<|ah<|ac<|aa (ag rfl) rfl<|ae<|ah<|ah<|ac<|aa (ad rfl) rfl<|ak (aB H en_202 rfl rfl fun r8 _ H1=>aa (ad rfl) rfl<|aa (aq rfl rfl) rfl<|aa (aq rfl rfl) rfl<|aa (ag rfl) rfl<|aa (ag rfl) rfl<|ae<|aF<|bO (step:=mD K) (fun s2=>[(3,(.int .i64 s2.1)),(4,(pv s2.2.1)),(5,(.bool s2.2.2))]) (fun s2=>[]) H1 (.cons rfl (.cons rfl (.cons rfl (.nil _)))) .slnil (fun Rec3 s2 _ H4=>ah<|ah<|ac<|aa (ad rfl) rfl<|ae<|aC rfl H4 (fun k5 H6=>av<|ah<|aF<|ac<|aa (ad rfl) rfl<|aa (bI rfl rfl) rfl<|aa (ag rfl) rfl<|ae<|ac<|aa (ad rfl) rfl<|bQ H6 fun q14 e7 H8=>aa (aV (aW rfl (ax e7))) rfl<|aa (an fld_228_3 rfl) rfl<|ak (bg H8 sc_171 rfl (fun _=>rfl) rfl fun x16 H9=>ak (aB H9 en_202 rfl rfl fun r17 _ H10=>aa (ad rfl) rfl<|aa (aq rfl rfl) rfl<|aa (aq rfl rfl) rfl<|aa (ag rfl) rfl<|aa (ag rfl) rfl<|ae<|cT ((IntKind.i64.wrap (s2.1 + 1)),r17.1,r17.2) H10 (.cons rfl (.cons rfl (.cons rfl (.nil _)))) .slnil))) (fun k5 H6=>bA<|ah<|ac<|aa (ad rfl) rfl<|aa (ag rfl) rfl<|ae<|ao<|aw (az rfl (aE rfl)) ⟨s2.1,rfl,H6⟩)))
def mX (a0:Ptr) (K:ByteArray→Hp→Prop):Hp→Prop:=br a0.isNone ( K (⟨#[]⟩:ByteArray)) ( nn a0 fun q7=>ld (q7.1,q7.2 + 0) (cI .i64) fun x9=>cl Tryz.prog sP [(.int .i64 x9)] dY fun r10=>hpv Tryz.prog (do eqGuard .add 9 (.const (.string (⟨#[116,114,97,112,32]⟩:ByteArray))) (.tmp 10) (.string (⟨#[116,114,97,112,32]⟩:ByteArray)) (.string r10); binOp .add 9 (.string (⟨#[116,114,97,112,32]⟩:ByteArray)) (.string r10):Sem Value) dY fun (v11:ByteArray)=>ld (q7.1,q7.2 + 7) cV fun x15=>hpv Tryz.prog (do eqGuard .neq 171 (.tmp 15) (.const Value.nilIface) x15 Value.nilIface; binOp .neq 171 x15 Value.nilIface:Sem Value) aK fun (v16:Bool)=>br v16 ( ld (q7.1,q7.2 + 7) cV fun x21=>cln Tryz.prog (callMethod x21 "Error" #[]) dY fun (v22:ByteArray)=>hpv Tryz.prog (do eqGuard .add 9 (.const (.string (⟨#[58,32]⟩:ByteArray))) (.tmp 22) (.string (⟨#[58,32]⟩:ByteArray)) (.string v22); binOp .add 9 (.string (⟨#[58,32]⟩:ByteArray)) (.string v22):Sem Value) dY fun (v23:ByteArray)=>hpv Tryz.prog (do eqGuard .add 9 (.tmp 17) (.tmp 23) (.string v11) (.string v23); binOp .add 9 (.string v11) (.string v23):Sem Value) dY fun (v24:ByteArray)=>K v24) ( K v11))
set_option maxRecDepth 20000 in
theorem ri (a0:Ptr) {K:ByteArray→Hp→Prop} {h:Hp} (H:mX a0 K h):Ct Tryz.prog iM #[(pv a0)] h fun v h'=>∃ r,v = dY r∧K r h':=aD [(pv a0)] Tryz.func233 rfl rfl rfl fun _=>ah<|ac<|aa (ag rfl) rfl<|ae<|ah<|ah<|ac<|aa (ad rfl) rfl<|aa (cA Tryz.underlying226 rfl) rfl<|ae<|aC rfl H (fun k1 H2=>ah<|ac<|aa (ag rfl) rfl<|ae<|ao<|aw (az rfl (aE rfl)) ⟨(⟨#[]⟩:ByteArray),rfl,H2⟩) (fun k1 H2=>av<|ah<|ac<|aa (ad rfl) rfl<|bQ H2 fun q7 e3 H4=>aa (aV (aW rfl (ax e3))) rfl<|aa (an vu rfl) rfl<|ak (bg H4 ov rfl (fun _=>rfl) rfl fun x9 H5=>ak (aB H5 en_236 rfl rfl fun r10 _ H6=>ak (be H6 (gf rfl rfl) rfl fun v11 _ H7=>aa (ag rfl) rfl<|ae<|ah<|ah<|ac<|aa (ad (aW rfl (ax e3))) rfl<|aa (aV rfl) rfl<|aa (an fld_228_3 rfl) rfl<|ak (bg H7 sc_171 rfl (fun _=>rfl) rfl fun x15 H8=>ak (be H8 (gf rfl rfl) rfl fun v16 _ H9=>ae<|aC rfl H9 (fun k10 H11=>ac<|aa (ad rfl) rfl<|aa (ad (aW rfl (ax e3))) rfl<|aa (aV rfl) rfl<|aa (an fld_228_3 rfl) rfl<|ak (bg H11 sc_171 rfl (fun _=>rfl) rfl fun x21 H12=>ak (fX H12 (fW (vs:=[]) rfl rfl) rfl fun v22 _ H13=>ak (be H13 (gf rfl rfl) rfl fun v23 _ H14=>ak (be H14 (gf rfl rfl) rfl fun v24 _ H15=>aa (ag rfl) rfl<|ae<|ah<|ac<|aa (ad rfl) rfl<|aa (ag rfl) rfl<|ae<|ao<|aw (az rfl (aE rfl)) ⟨v24,rfl,H15⟩))))) (fun k10 H11=>av<|ah<|ac<|aa (ad rfl) rfl<|aa (ag rfl) rfl<|ae<|ao<|aw (az rfl (aE rfl)) ⟨v11,rfl,H11⟩)))))))
def sh_trap_Trap_Is (a0:Ptr) (a1:Value) (K:Bool→Hp→Prop):Hp→Prop:=hpv Tryz.prog (Instr.typeAssert a1 gg bt true) eH fun (v9:Ptr × Bool)=>br v9.2 ( br (!a0.isNone) ( br (!v9.1.isNone) ( nn a0 fun q23=>nn v9.1 fun q27=>ld (q23.1,q23.2 + 0) (cI .i64) fun x25=>ld (q27.1,q27.2 + 0) (cI .i64) fun x29=>K (x25 == x29)) ( K false)) ( K false)) ( K false)
set_option maxRecDepth 20000 in
theorem sim_trap_Trap_Is (a0:Ptr) (a1:Value) {K:Bool→Hp→Prop} {h:Hp} (H:sh_trap_Trap_Is a0 a1 K h):Ct Tryz.prog sN #[(pv a0),a1] h fun v h'=>∃ r,v = aK r∧K r h':=aD [(pv a0),a1] Tryz.func234 rfl rfl rfl fun _=>ah<|ac<|aa (ag rfl) rfl<|ae<|ah<|ac<|aa (ad rfl) rfl<|ak (be H (fU rfl) rfl fun v9 _ H1=>aa (ad rfl) rfl<|aa (aq rfl rfl) rfl<|aa (aq rfl rfl) rfl<|aa (ag rfl) rfl<|aa (ag rfl) rfl<|ae<|ah<|bC (n:=21) [] cy rfl .slnil<|ai (i:=0) (fun _ _ _ _=>id) rfl (by kernel_rfl) rfl (ve (ad rfl))<|ai (i:=1) (fun _ _ _ _=>id) rfl (by kernel_rfl) rfl (ve (ad rfl))<|pU H1 (fun k2 H3=>ch (i:=2) (fun _ _ _ _=>id) rfl (by kernel_rfl) rfl rfl rfl rfl (congrArg Value.bool k2) (ve (ad rfl))<|ch (i:=3) (fun _ _ _ _=>id) rfl (by kernel_rfl) rfl rfl rfl rfl (congrArg Value.bool k2) (ve (v_pneT Tryz.underlying226 rfl))<|ai (i:=4) (fun _ _ _ _=>id) rfl (by kernel_rfl) rfl (ve (bd rfl k2 rfl))<|ai (i:=5) (fun _ _ _ _=>id) rfl (by kernel_rfl) rfl (ve (ad rfl))<|pU H3 (fun k4 H5=>ch (i:=6) (fun _ _ _ _=>id) rfl (by kernel_rfl) rfl rfl rfl rfl (congrArg Value.bool k4) (ve (ad rfl))<|ch (i:=7) (fun _ _ _ _=>id) rfl (by kernel_rfl) rfl rfl rfl rfl (congrArg Value.bool k4) (ve (v_pneT Tryz.underlying226 rfl))<|ai (i:=8) (fun _ _ _ _=>id) rfl (by kernel_rfl) rfl (ve (bd rfl k4 rfl))<|ai (i:=9) (fun _ _ _ _=>id) rfl (by kernel_rfl) rfl (ve (ad rfl))<|pU H5 (fun k6 H7=>ch (i:=10) (fun _ _ _ _=>id) rfl (by kernel_rfl) rfl rfl rfl rfl (congrArg Value.bool k6) (ve (ad rfl))<|ch (i:=14) (fun _ _ _ _=>id) rfl (by kernel_rfl) rfl rfl rfl rfl (congrArg Value.bool k6) (ve (ad rfl))<|gO H7 fun q23 e8 H9=>ch (i:=11) (fun _ _ _ _=>id) rfl (by kernel_rfl) rfl rfl rfl rfl (congrArg Value.bool k6) (ve (aV (aW rfl (ax e8))))<|ch (i:=12) (fun _ _ _ _=>id) rfl (by kernel_rfl) rfl rfl rfl rfl (congrArg Value.bool k6) (ve (an vu rfl))<|gO H9 fun q27 e10 H11=>ch (i:=15) (fun _ _ _ _=>id) rfl (by kernel_rfl) rfl rfl rfl rfl (congrArg Value.bool k6) (ve (aV (aW rfl (ax e10))))<|ch (i:=16) (fun _ _ _ _=>id) rfl (by kernel_rfl) rfl rfl rfl rfl (congrArg Value.bool k6) (ve (an vu rfl))<|lZ (i:=13) (fun _ _ _ _=>id) H11 rfl (by kernel_rfl) rfl rfl rfl (congrArg Value.bool k6) ov rfl (fun _=>rfl) rfl fun x25 H12=>lZ (i:=17) (fun _ _ _ _=>id) H12 rfl (by kernel_rfl) rfl rfl rfl (congrArg Value.bool k6) ov rfl (fun _=>rfl) rfl fun x29 H13=>ch (i:=18) (fun _ _ _ _=>id) rfl (by kernel_rfl) rfl rfl rfl rfl (congrArg Value.bool k6) (ve (bV rfl rfl))<|ai (i:=19) (fun _ _ _ _=>id) rfl (by kernel_rfl) rfl (ve (bd rfl k6 rfl))<|ai (i:=20) (fun _ _ _ _=>id) rfl (by kernel_rfl) rfl (ve (ag rfl))<|bf (by kernel_rfl)<|ao<|aw (az rfl (aE rfl)) ⟨(x25 == x29),rfl,H13⟩) (fun k6 H7=>bb (i:=10) (fun _ _ _ _=>id) rfl (by kernel_rfl) rfl rfl rfl rfl (bc k6)<|bb (i:=11) (fun _ _ _ _=>id) rfl (by kernel_rfl) rfl rfl rfl rfl (bc k6)<|bb (i:=12) (fun _ _ _ _=>id) rfl (by kernel_rfl) rfl rfl rfl rfl (bc k6)<|bb (i:=13) (fun _ _ _ _=>id) rfl (by kernel_rfl) rfl rfl rfl rfl (bc k6)<|bb (i:=14) (fun _ _ _ _=>id) rfl (by kernel_rfl) rfl rfl rfl rfl (bc k6)<|bb (i:=15) (fun _ _ _ _=>id) rfl (by kernel_rfl) rfl rfl rfl rfl (bc k6)<|bb (i:=16) (fun _ _ _ _=>id) rfl (by kernel_rfl) rfl rfl rfl rfl (bc k6)<|bb (i:=17) (fun _ _ _ _=>id) rfl (by kernel_rfl) rfl rfl rfl rfl (bc k6)<|bb (i:=18) (fun _ _ _ _=>id) rfl (by kernel_rfl) rfl rfl rfl rfl (bc k6)<|ai (i:=19) (fun _ _ _ _=>id) rfl (by kernel_rfl) rfl (ve (ay rfl k6 rfl))<|ai (i:=20) (fun _ _ _ _=>id) rfl (by kernel_rfl) rfl (ve (ag rfl))<|bf (by kernel_rfl)<|ao<|aw (az rfl (aE rfl)) ⟨false,rfl,H7⟩)) (fun k4 H5=>bb (i:=6) (fun _ _ _ _=>id) rfl (by kernel_rfl) rfl rfl rfl rfl (bc k4)<|bb (i:=7) (fun _ _ _ _=>id) rfl (by kernel_rfl) rfl rfl rfl rfl (bc k4)<|ai (i:=8) (fun _ _ _ _=>id) rfl (by kernel_rfl) rfl (ve (ay rfl k4 rfl))<|ai (i:=9) (fun _ _ _ _=>id) rfl (by kernel_rfl) rfl (ve (ad rfl))<|bb (i:=10) (fun _ _ _ _=>id) rfl (by kernel_rfl) rfl rfl rfl rfl rfl<|bb (i:=11) (fun _ _ _ _=>id) rfl (by kernel_rfl) rfl rfl rfl rfl rfl<|bb (i:=12) (fun _ _ _ _=>id) rfl (by kernel_rfl) rfl rfl rfl rfl rfl<|bb (i:=13) (fun _ _ _ _=>id) rfl (by kernel_rfl) rfl rfl rfl rfl rfl<|bb (i:=14) (fun _ _ _ _=>id) rfl (by kernel_rfl) rfl rfl rfl rfl rfl<|bb (i:=15) (fun _ _ _ _=>id) rfl (by kernel_rfl) rfl rfl rfl rfl rfl<|bb (i:=16) (fun _ _ _ _=>id) rfl (by kernel_rfl) rfl rfl rfl rfl rfl<|bb (i:=17) (fun _ _ _ _=>id) rfl (by kernel_rfl) rfl rfl rfl rfl rfl<|bb (i:=18) (fun _ _ _ _=>id) rfl (by kernel_rfl) rfl rfl rfl rfl rfl<|ai (i:=19) (fun _ _ _ _=>id) rfl (by kernel_rfl) rfl (ve (ay rfl rfl rfl))<|ai (i:=20) (fun _ _ _ _=>id) rfl (by kernel_rfl) rfl (ve (ag rfl))<|bf (by kernel_rfl)<|ao<|aw (az rfl (aE rfl)) ⟨false,rfl,H5⟩)) (fun k2 H3=>bb (i:=2) (fun _ _ _ _=>id) rfl (by kernel_rfl) rfl rfl rfl rfl (bc k2)<|bb (i:=3) (fun _ _ _ _=>id) rfl (by kernel_rfl) rfl rfl rfl rfl (bc k2)<|ai (i:=4) (fun _ _ _ _=>id) rfl (by kernel_rfl) rfl (ve (ay rfl k2 rfl))<|ai (i:=5) (fun _ _ _ _=>id) rfl (by kernel_rfl) rfl (ve (ad rfl))<|bb (i:=6) (fun _ _ _ _=>id) rfl (by kernel_rfl) rfl rfl rfl rfl rfl<|bb (i:=7) (fun _ _ _ _=>id) rfl (by kernel_rfl) rfl rfl rfl rfl rfl<|ai (i:=8) (fun _ _ _ _=>id) rfl (by kernel_rfl) rfl (ve (ay rfl rfl rfl))<|ai (i:=9) (fun _ _ _ _=>id) rfl (by kernel_rfl) rfl (ve (ad rfl))<|bb (i:=10) (fun _ _ _ _=>id) rfl (by kernel_rfl) rfl rfl rfl rfl rfl<|bb (i:=11) (fun _ _ _ _=>id) rfl (by kernel_rfl) rfl rfl rfl rfl rfl<|bb (i:=12) (fun _ _ _ _=>id) rfl (by kernel_rfl) rfl rfl rfl rfl rfl<|bb (i:=13) (fun _ _ _ _=>id) rfl (by kernel_rfl) rfl rfl rfl rfl rfl<|bb (i:=14) (fun _ _ _ _=>id) rfl (by kernel_rfl) rfl rfl rfl rfl rfl<|bb (i:=15) (fun _ _ _ _=>id) rfl (by kernel_rfl) rfl rfl rfl rfl rfl<|bb (i:=16) (fun _ _ _ _=>id) rfl (by kernel_rfl) rfl rfl rfl rfl rfl<|bb (i:=17) (fun _ _ _ _=>id) rfl (by kernel_rfl) rfl rfl rfl rfl rfl<|bb (i:=18) (fun _ _ _ _=>id) rfl (by kernel_rfl) rfl rfl rfl rfl rfl<|ai (i:=19) (fun _ _ _ _=>id) rfl (by kernel_rfl) rfl (ve (ay rfl rfl rfl))<|ai (i:=20) (fun _ _ _ _=>id) rfl (by kernel_rfl) rfl (ve (ag rfl))<|bf (by kernel_rfl)<|ao<|aw (az rfl (aE rfl)) ⟨false,rfl,H3⟩))
def rj (a0:Ptr) (K:Value→Hp→Prop):Hp→Prop:=br a0.isNone ( K Value.nilIface) ( nn a0 fun q6=>ld (q6.1,q6.2 + 7) cV fun x8=>K x8)
set_option maxRecDepth 20000 in
theorem sim_trap_Trap_Unwrap (a0:Ptr) {K:Value→Hp→Prop} {h:Hp} (H:rj a0 K h):Ct Tryz.prog mZ #[(pv a0)] h fun v h'=>∃ r,v = ip r∧K r h':=aD [(pv a0)] Tryz.func235 rfl rfl rfl fun _=>ah<|ac<|aa (ag rfl) rfl<|ae<|ah<|ah<|ac<|aa (ad rfl) rfl<|aa (cA Tryz.underlying226 rfl) rfl<|ae<|aC rfl H (fun k1 H2=>ah<|ac<|aa (ag rfl) rfl<|ae<|ao<|aw (az rfl (aE rfl)) ⟨Value.nilIface,rfl,H2⟩) (fun k1 H2=>av<|ah<|ac<|aa (ad rfl) rfl<|bQ H2 fun q6 e3 H4=>aa (aV (aW rfl (ax e3))) rfl<|aa (an fld_228_3 rfl) rfl<|ak (bg H4 sc_171 rfl (fun _=>rfl) rfl fun x8 H5=>aa (ag rfl) rfl<|ae<|ao<|aw (az rfl (aE rfl)) ⟨x8,rfl,H5⟩))
end Go.Proofs.YtniiiakkdoiaiaaGreatDoor
namespace Go.Proofs.YtniiiakkdoiaiaaGreatDoor
open Go Mb
variable {ET:Nat} {EF:Nat × Nat}
abbrev dy (b:Nat):Value:=.iface bt (.pointer (some ⟨b,0,none⟩))
theorem g0:Tryz.prog.globals.size = 4:=by kernel_rfl
theorem g1:typeHandle Tryz.prog bt = pv (some (4,bt)):=by kernel_rfl
theorem g2:(Tryz.prog.globals[0]?).map (·.type) = some 223:=by kernel_rfl
theorem oneErr:((List.range 325).filter fun t=>Tryz.prog.rowNamed t [101,114,114,111,114]) = [171]:=by kernel_rfl
theorem g4:Tryz.prog.types.size = 325:=by kernel_rfl
abbrev rtV (T:Nat):Value:=.iface t_reflectlite_rtype (.agg #[pv (some (4,T))])
abbrev vl (T c f:Nat):aT:=⟨some (4,T),some (c,0),f⟩
abbrev vlV (T c f:Nat):Value:=.agg (aT.C (vl T c f)).toArray
section
variable (b:Nat) (K:Next→Hp→Prop) (h:Hp)
theorem x7:hp Tryz.prog (callFunc fY #[dy b]) K h = K (.value (rtV bt)) h:=by kernel_rfl
theorem x8:hp Tryz.prog (callFunc da #[.iface bL (.pointer (some ⟨b,0,none⟩))]) K h = (true = true∧∀ e,h e = none→K (.value (vlV bL e 150)) (eO h e (.cells #[pv (some (b,0))] bL (0,0)))):=by kernel_rfl
theorem x8':hp Tryz.prog (callFunc da #[dy b]) K h = (true = true∧∀ e,h e = none→K (.value (vlV bt e 150)) (eO h e (.cells #[pv (some (b,0))] bt (0,0)))):=by kernel_rfl
theorem x10:hp Tryz.prog (callMethod (rtV bL) "Kind" #[]) K h = K (.value (.int .u8 22)) h:=by kernel_rfl
theorem x11:hp Tryz.prog (callMethod (rtV bL) "Elem" #[]) K h = K (.value (rtV bt)) h:=by kernel_rfl
theorem x12:hp Tryz.prog (callMethod (rtV bt) "Kind" #[]) K h = K (.value (.int .u8 22)) h:=by kernel_rfl
theorem x13:hp Tryz.prog (callMethod (rtV bt) "Comparable" #[]) K h = K (.value (.bool true)) h:=by kernel_rfl
theorem x14:hp Tryz.prog (callMethod (rtV bt) "AssignableTo" #[rtV bt]) K h = K (.value (.bool true)) h:=by kernel_rfl
theorem x15 (c:Nat):hp Tryz.prog (callFunc iq #[vlV bL c 150]) K h = K (.value (rtV bL)) h:=by kernel_rfl
theorem x16 (c:Nat):hp Tryz.prog (callFunc eS #[vlV bL c 150]) K h =
  hp Tryz.prog (do let r ← Extern.ReflectliteValue.isNil bL ⟨c,0,none⟩ 150 22; pure (.value r)) K h:=by kernel_rfl
theorem x17:hp Tryz.prog (callMethod (rtV bt) "Implements" #[rtV gg]) K h = K (.value (.bool true)) h:=by kernel_rfl
theorem x18 (c:Nat):hp Tryz.prog (callFunc fe #[vlV bL c 150]) K h =
  hp Tryz.prog (do let r ← Extern.ReflectliteValue.elem bL ⟨c,0,none⟩ 150 22; pure (.value r)) K h:=by kernel_rfl
theorem x19 (c d:Nat):hp Tryz.prog (callFunc fq #[vlV bt c 406,vlV bt d 150]) K h =
  hp Tryz.prog (do let r ← (do let v ← loadVar bt ⟨d,0,none⟩; storeVar bt ⟨c,0,none⟩ v; pure (Value.tuple #[])); pure (.value r)) K h:=by kernel_rfl
theorem y1 (c:Nat) (K:Value→Hp→Prop):hp Tryz.prog (loadVar bL ⟨c,0,none⟩) K h = ∃ v,kP h ⟨c,0,none⟩ = some v∧K v h:=by kernel_rfl
theorem y2 (c:Nat) (K:Value→Hp→Prop):hp Tryz.prog (loadVar bt ⟨c,0,none⟩) K h = ∃ v,kP h ⟨c,0,none⟩ = some v∧K v h:=by kernel_rfl
theorem y3 (b:Nat) (K:Value→Hp→Prop):hp Tryz.prog (Extern.ReflectliteValue.mk bt ⟨b,0,none⟩ Extern.ReflectliteValue.flagAddr) K h = K (vlV bt b 406) h:=by kernel_rfl
theorem y4 (K:Option TypeId→Hp→Prop):hp Tryz.prog (Extern.Rtype.elem? bL) K h = K (some bt) h:=by kernel_rfl
theorem y5 (b c:Nat) (K:Unit→Hp→Prop):hp Tryz.prog (storeVar bt ⟨c,0,none⟩ (.pointer (some ⟨b,0,none⟩))) K h = hp Tryz.prog (storeCells ⟨c,0,none⟩ [.pointer (some ⟨b,0,none⟩)]) K h:=by kernel_rfl
theorem y6 (K:Value→Hp→Prop) {a b n m:Nat}:hp Tryz.prog (do eqGuard .eql 171 (.tmp n) (.tmp m) (dy a) (dy b); binOp .eql 171 (dy a) (dy b):Sem Value) K h = hp Tryz.prog (do let r ← sameAddr ⟨a,0,none⟩ ⟨b,0,none⟩; pure (.bool r)) K h:=by kernel_rfl
theorem x25 (K:Bool→Hp→Prop) {a b:Nat} {ca cb:List Value} {Ta Tb:Nat} (ha:h a = some (.cells ca.toArray Ta (0,0))) (hb:h b = some (.cells cb.toArray Tb (0,0))) (H:K (a == b) h):hp Tryz.prog (sameAddr ⟨a,0,none⟩ ⟨b,0,none⟩) K h:=by
  unfold sameAddr
  rcases Decidable.em (a = b) with e | e
  · subst e
    rw [if_pos (by simp)]
    have H':K true h:=by simpa using H
    simpa [hp_pure] using H'
  · rw [if_neg (by simpa using e)]
    have fa:∀ (K:Bool→Hp→Prop) (o:Nat),hp Tryz.prog (frozen ⟨a,o,none⟩) K h↔K false h:=fun K o =>
      ⟨fun ⟨o',h1,h2⟩=>by rw [ha] at h1; cases h1; simpa [hp,tX] using h2,fun h2=>⟨_,ha,by simpa [hp,tX] using h2⟩⟩
    have fb:∀ (K:Bool→Hp→Prop) (o:Nat),hp Tryz.prog (frozen ⟨b,o,none⟩) K h↔K false h:=fun K o =>
      ⟨fun ⟨o',h1,h2⟩=>by rw [hb] at h1; cases h1; simpa [hp,tX] using h2,fun h2=>⟨_,hb,by simpa [hp,tX] using h2⟩⟩
    have sa:∀ (K:Option (TypeId × Nat)→Hp→Prop),hp Tryz.prog (shape a) K h↔K (some (Ta,ca.length)) h:=fun K =>
      ⟨fun ⟨o',h1,h2⟩=>by rw [ha] at h1; cases h1; simpa [hp,oshape] using h2,fun h2=>⟨_,ha,by simpa [hp,oshape] using h2⟩⟩
    have sb:∀ (K:Option (TypeId × Nat)→Hp→Prop),hp Tryz.prog (shape b) K h↔K (some (Tb,cb.length)) h:=fun K =>
      ⟨fun ⟨o',h1,h2⟩=>by rw [hb] at h1; cases h1; simpa [hp,oshape] using h2,fun h2=>⟨_,hb,by simpa [hp,oshape] using h2⟩⟩
    have eb:(a == b) = false:=by simpa using e
    rw [eb] at H
    simp [cY,fa,fb,sa,sb,noView,viewAt,mayBeOne,stringish,hp_pure,H]
end
section
variable {P:Program} {τ:Type} {enc:τ→Value} {K:τ→Hp→Prop} {h:Hp}
theorem ft {m:Sem Value} (r:τ) (e:∀ (K:Value→Hp→Prop) h,hp P m K h = K (enc r) h) (k:K r h):hpv P m enc K h:=⟨by rw [e]; exact ⟨r,rfl,k⟩⟩
theorem th {m:Sem Next} (r:τ) (e:∀ (K:Next→Hp→Prop) h,hp P m K h = K (.value (enc r)) h) (k:K r h):cln P m enc K h:=⟨by rw [e]; exact .inl ⟨r,rfl,k⟩⟩
theorem cln_en {m:Sem Next} {f:FuncId} {vs:List Value} (e:∀ (K:Next→Hp→Prop) h,hp P m K h = K (.enter f vs.toArray) h) (k:cl P f vs enc K h):cln P m enc K h:=⟨by rw [e]; exact .inr ⟨f,_,rfl,k⟩⟩
end
abbrev etB (ET:Nat) (EF:Nat × Nat):As:=obj 0 (.cells #[rtV gg] ET EF)
abbrev trB (b:Nat) (t:ck):As:=blk b nt (ck.C t)
theorem en_0 (b n:Nat) (K:Value→Hp→Prop) (h:Hp):hp Tryz.prog (do eqGuard .eql 171 (.tmp n) (.const Value.nilIface) (dy b) Value.nilIface; binOp .eql 171 (dy b) Value.nilIface:Sem Value) K h = K (.bool false) h:=by kernel_rfl
theorem en_00 (n:Nat) (K:Value→Hp→Prop) (h:Hp):hp Tryz.prog (do eqGuard .eql 171 (.tmp n) (.const Value.nilIface) Value.nilIface Value.nilIface; binOp .eql 171 Value.nilIface Value.nilIface:Sem Value) K h = K (.bool true) h:=by kernel_rfl
theorem en_1 (b n:Nat) (K:Value→Hp→Prop) (h:Hp):hp Tryz.prog (do eqGuard .eql 20 (.tmp n) (.const Value.nilIface) (.iface bL (.pointer (some ⟨b,0,none⟩))) Value.nilIface; binOp .eql 20 (.iface bL (.pointer (some ⟨b,0,none⟩))) Value.nilIface:Sem Value) K h = K (.bool false) h:=by kernel_rfl
theorem sp_As_nil (v:Value):Sp Tryz.prog ue [Value.nilIface,v] aK [] (fun r=>pa_ (r = false) []):=by
  intro h st
  refine sim_errors_As _ _ ?_
  unfold wB
  exact ft true (en_00 _) (dW rfl (bi rfl st))
section
variable {h:Hp} {b c d:Nat}
theorem c22 {K:Bool→Hp→Prop} (e:kP h ⟨c,0,none⟩ = some (.pointer (some ⟨b,0,none⟩))) (H:K false h):cln Tryz.prog (callFunc eS #[vlV bL c 150]) aK K h:=by
  constructor
  rw [x16,cY]
  unfold Extern.ReflectliteValue.isNil
  rw [if_neg (by decide)]
  rw [cY,y1]; exact ⟨_,e,.inl ⟨false,rfl,H⟩⟩
theorem c23 {K:aT→Hp→Prop} (e:kP h ⟨c,0,none⟩ = some (.pointer (some ⟨b,0,none⟩))) (H:K (vl bt b 406) h):cln Tryz.prog (callFunc fe #[vlV bL c 150]) fz K h:=by
  constructor
  rw [x18,cY]
  unfold Extern.ReflectliteValue.elem
  rw [if_neg (by decide),cY,y1]
  refine ⟨_,e,?_⟩
  rw [cY,y4]
  show hp _ (Extern.ReflectliteValue.mk _ _ _) _ h
  rw [y3]; exact .inl ⟨_,rfl,H⟩
theorem c24 {K:Unit→Hp→Prop} (e:kP h ⟨d,0,none⟩ = some (.pointer (some ⟨b,0,none⟩))) (H:hp Tryz.prog (storeCells ⟨c,0,none⟩ [.pointer (some ⟨b,0,none⟩)]) (fun _=>K ()) h):cln Tryz.prog (callFunc fq #[vlV bt c 406,vlV bt d 150]) R_ K h:=by
  constructor
  rw [x19,cY,cY,y2]; refine ⟨_,e,?_⟩
  rw [cY,y5]; exact hp_mono _ (fun _ _ k=>.inl ⟨(),rfl,k⟩) _ H
theorem c8 {K:aT→Hp→Prop} (H:∀ e,h e = none→K (vl bL e 150) (eO h e (.cells #[pv (some (b,0))] bL (0,0)))):cln Tryz.prog (callFunc da #[.iface bL (.pointer (some ⟨b,0,none⟩))]) fz K h:=by
  constructor
  rw [x8]
  exact ⟨rfl,fun e he=>.inl ⟨_,rfl,H e he⟩⟩
theorem c8' {K:aT→Hp→Prop} (H:∀ e,h e = none→K (vl bt e 150) (eO h e (.cells #[pv (some (b,0))] bt (0,0)))):cln Tryz.prog (callFunc da #[dy b]) fz K h:=by
  constructor
  rw [x8']
  exact ⟨rfl,fun e he=>.inl ⟨_,rfl,H e he⟩⟩
end
theorem blk_cell {l:List As} {h:Hp} {i b:Nat} {T:TypeId} {c:List Value} {v:Value} (hi:l[i]? = some (blk b T c)) (hv:c[0]? = some v) (s:aP l h):kP h ⟨b,0,none⟩ = some v:=by
  obtain ⟨g1,a1,sub1⟩:=dX hi s
  have:=sub1 _ _ a1
  unfold kP
  rw [this]
  simpa using hv
theorem sp_as (b c d:Nat) (p:Ptr):Sp Tryz.prog ud [dy b,.iface bL (.pointer (some ⟨c,0,none⟩)),vlV bL d 150,rtV bt] aK
    [blk c bt [pv p],blk d bL [pv (some (c,0))]] (fun r=>pa_ (r = true) [blk c bt [pv (some (b,0))]]):=by
  intro h st
  refine sim_errors_as _ _ _ _ ?_
  unfold sh_errors_as
  refine ⟨fun s h=>s = dy b∧aP [blk c bt [pv p],blk d bL [pv (some (c,0))]] h,fun _ _=>0,⟨rfl,st⟩,?_⟩
  rintro _ h1 ⟨rfl,s1⟩
  unfold wY
  refine th (rtV bt) (fun K h=>x7 b K h) ?_
  refine th true (fun K h=>x14 K h) (dW rfl ?_)
  refine c23 (blk_cell (i:=1) rfl rfl s1) ?_
  refine c8' fun e he=>?_
  have s2:aP (blk e bt [pv (some (b,0))]::_) _:=new_s (o:=.cells #[pv (some (b,0))] bt (0,0)) s1 he
  refine c24 (blk_cell (i:=0) (T:=bt) (c:=[pv (some (b,0))]) rfl rfl s2) ?_
  obtain ⟨g2,a2,sub2⟩:=dX (i:=1) (A:=blk c bt [pv p]) rfl s2
  refine hp_storeCells _ 0 0 [pv p] _ (sub2 _ _ a2) (by simp) rfl ?_
  have s3:aP (_::blk c bt [pv (some (b,0))]::_) _:=obj_set (o':=.cells #[pv (some (b,0))] bt (0,0)) (i:=1) s2 rfl
  exact bi rfl (ct (l:=[_,_]) (bp [0,1] s3 rfl))
theorem sp_As (b c:Nat) (p:Ptr):Sp Tryz.prog ue [dy b,.iface bL (.pointer (some ⟨c,0,none⟩))] aK
    [(etB ET EF),blk c bt [pv p]] (fun r=>pa_ (r = true) [(etB ET EF),blk c bt [pv (some (b,0))]]):=by
  intro h st
  refine sim_errors_As _ _ ?_
  unfold wB
  refine ft false (en_0 b _) (dJ rfl ?_)
  refine ft false (en_1 c _) (dJ rfl ?_)
  unfold xc
  refine c8 fun e he=>?_
  have s2:aP (blk e bL [pv (some (c,0))]::_) _:=new_s (o:=.cells #[pv (some (c,0))] bL (0,0)) st he
  refine th (rtV bL) (fun K h=>x15 K h e) ?_
  refine th 22 (fun K h=>x10 K h) (dW rfl ?_)
  refine c22 (blk_cell (i:=0) (T:=bL) (c:=[pv (some (c,0))]) rfl rfl s2) (dJ rfl ?_)
  unfold xa
  refine th (rtV bt) (fun K h=>x11 K h) ?_
  refine th 22 (fun K h=>x12 K h) (dW rfl ?_)
  obtain ⟨g3,a3,sub3⟩:=dX (i:=1) (A:=etB ET EF) rfl s2
  refine ⟨rtV gg,⟨_,_,_,sub3 _ _ a3,fun i v hv=>?_⟩,?_⟩
  · rcases i with _ | i <;> first | exact hv | simp [cV] at hv
  refine th true (fun K h=>x17 K h) (dJ rfl ?_)
  unfold rV
  refine cW [2,0,1] (rest:=[(etB ET EF)]) (sp_as b c e p) s2 rfl fun r h' s3=>?_
  obtain ⟨rfl,s4⟩:=bF.1 s3
  exact bi rfl (bp [1,0] s4 rfl)
abbrev firstOf (b:Nat):Ptr × Bool:=(some (b,0),true)
theorem sp_First (b:Nat):Sp Tryz.prog jO [dy b] eH [(etB ET EF)] (fun r=>pa_ (r = firstOf b) [(etB ET EF)]):=by
  intro h st
  refine sim_trap_First _ ?_
  unfold uy
  refine oS st fun c h1 s1=>?_
  refine ft (.iface bL (.pointer (some ⟨c,0,none⟩))) (fun K h=>by kernel_rfl) ?_
  refine cW [1,0] (rest:=[]) (sp_As b c none) s1 rfl fun r h' s2=>?_
  obtain ⟨rfl,s3⟩:=bF.1 s2
  refine dW rfl ?_
  refine bB (some (b,0)) s3 (i:=1) rfl rfl rfl ?_
  unfold mC
  refine dJ rfl ?_
  refine bB (some (b,0)) s3 (i:=1) rfl rfl rfl ?_
  exact bi rfl (ct (l:=[_]) (bp [1] s3 rfl))
theorem sp_First_nil:Sp Tryz.prog jO [Value.nilIface] eH [] (fun r=>pa_ (r = (none,false)) []):=by
  intro h st
  refine sim_trap_First _ ?_
  unfold uy
  refine oS st fun c h1 s1=>?_
  refine ft (.iface bL (.pointer (some ⟨c,0,none⟩))) (fun K h=>by kernel_rfl) ?_
  refine ti (sp_As_nil _) s1 fun r h' hr s2=>?_
  subst hr
  refine dJ rfl ?_
  unfold mC
  exact dW rfl (bi rfl trivial)
theorem sp_Of (n:Int) (hn:n ≠ 0):Sp Tryz.prog ko [.int .i64 n] ip [] (fun r=>ex fun b=>pa_ (r = dy b) [trB b ⟨n,-1,⟨0,0,0,0,0⟩,.nilIface⟩]):=by
  intro h st
  refine sim_trap_Of _ ?_
  unfold sh_trap_Of
  refine dJ (by simpa using hn) ?_
  refine oS st fun b h1 s1=>?_
  refine ft (dy b) (fun K h=>by kernel_rfl) ?_
  exact ⟨b,bi rfl s1⟩
theorem sp_Of0:Sp Tryz.prog ko [.int .i64 0] ip [] (fun r=>pa_ (r = Value.nilIface) []):=by
  intro h st
  refine sim_trap_Of _ ?_
  unfold sh_trap_Of
  exact dW rfl (bi rfl st)
theorem sp_Code (b:Nat) (t:ck):Sp Tryz.prog ua [dy b] bv [(etB ET EF),trB b t] (fun r=>pa_ (r = t.fCode) [(etB ET EF),trB b t]):=by
  intro h st
  refine sim_trap_Code _ ?_
  unfold sh_trap_Code
  refine ft false (en_0 b _) (dJ rfl ?_)
  refine bZ (i:=0) (sp_First b) rfl st fun r h' hr s2=>?_
  subst hr
  refine dW rfl (cO ?_)
  refine bB t.fCode s2 (i:=1) rfl rfl rfl ?_
  exact bi rfl s2
theorem sp_In (env:Int) (c:ap) (b:Nat) (t:ck):Sp Tryz.prog n_trap_In [.int .i64 env,.agg (ap.C c).toArray,dy b] ip [(etB ET EF),trB b t]
    (fun r=>ex fun e=>pa_ (r = dy e) [trB e ⟨t.fCode,env,c,dy b⟩,(etB ET EF),trB b t]):=by
  intro h st
  refine sim_trap_In _ _ _ ?_
  unfold sh_trap_In
  refine ft false (en_0 b _) (dJ rfl ?_)
  refine cW [] (rest:=[]) (sp_Code b t) st (List.append_nil _).symm fun r h' s2=>?_
  obtain ⟨rfl,s3⟩:=bF.1 s2
  refine ft ⟨t.fCode,env,c,dy b⟩ (fun K h=>by kernel_rfl) ?_
  refine oS s3 fun e h1 s4=>?_
  refine ft (dy e) (fun K h=>by kernel_rfl) ?_
  exact ⟨e,bi rfl s4⟩
theorem sp_Depth2 (b e:Nat) (t u:ck) (ht:t.fErr = dy e) (hu:u.fErr = Value.nilIface):Sp Tryz.prog wJ [dy b] dO [(etB ET EF),trB b t,trB e u] (fun r=>pa_ (r = 2) [(etB ET EF),trB b t,trB e u]):=by
  intro h st
  refine sim_trap_Depth _ ?_
  unfold sh_trap_Depth
  refine bZ (i:=0) (sp_First b) rfl st fun r h' hr s2=>?_
  subst hr
  refine ⟨fun s h=>(s = (0,some (b,0),true)∨s = (1,some (e,0),true)∨s = (2,none,false))∧aP [(etB ET EF),trB b t,trB e u] h,fun s _=>3 - s.1.toNat,⟨.inl rfl,s2⟩,?_⟩
  rintro s h1 ⟨rfl | rfl | rfl,s3⟩
  · unfold mD
    refine dW rfl (cO ?_)
    refine bB t.fErr s3 (i:=1) rfl rfl rfl ?_
    rw [ht]
    refine bZ (i:=0) (sp_First e) rfl s3 fun r h' hr s4=>?_
    subst hr
    exact ⟨⟨.inr (.inl rfl),s4⟩,Nat.le_of_ble_eq_true rfl⟩
  · unfold mD
    refine dW rfl (cO ?_)
    refine bB u.fErr s3 (i:=2) rfl rfl rfl ?_
    rw [hu]
    refine ti sp_First_nil s3 fun r h' hr s4=>?_
    subst hr
    exact ⟨⟨.inr (.inr rfl),s4⟩,Nat.le_of_ble_eq_true rfl⟩
  · unfold mD
    exact dJ rfl (bi rfl s3)
end Go.Proofs.YtniiiakkdoiaiaaGreatDoor
namespace Go.Proofs.YtniiiakkdoiaiaaGreatDoor
open Go Mb
set_option linter.unusedVariables false
def sh_strconv_Itoa (a0:Int) (K:ByteArray→Hp→Prop):Hp→Prop:=cl Tryz.prog jv [(.int .i64 a0)] dY fun r4=>K r4
set_option maxRecDepth 20000 in
theorem sim_strconv_Itoa (a0:Int) {K:ByteArray→Hp→Prop} {h:Hp} (H:sh_strconv_Itoa a0 K h):Ct Tryz.prog sP #[(.int .i64 a0)] h fun v h'=>∃ r,v = dY r∧K r h':=aD [(.int .i64 a0)] Tryz.func236 rfl rfl rfl fun _=>ah<|ac<|aa (ag rfl) rfl<|ae<|ah<|ac<|aa (ad rfl) rfl<|ak (aB H en_237 rfl rfl fun r4 _ H1=>aa (ag rfl) rfl<|ae<|ao<|aw (az rfl (aE rfl)) ⟨r4,rfl,H1⟩)
end Go.Proofs.YtniiiakkdoiaiaaGreatDoor
namespace Go.Proofs.YtniiiakkdoiaiaaGreatDoor
open Go Mb
set_option linter.unusedVariables false
def me (a0:Int) (K:ByteArray→Hp→Prop):Hp→Prop:=br (decide (a0 < 10)) ( hpv Tryz.prog (Instr.sliceAt uI (.string str_73df774b) (some (.int .i64 a0)) (some (.int .i64 (IntKind.i64.wrap (a0 + 1)))) none) dY fun (v8:ByteArray)=>K v8) ( hpv Tryz.prog (Instr.sliceAt uI (.string str_e9752c08) (some (.int .i64 (IntKind.i64.wrap (a0 * 2)))) (some (.int .i64 (IntKind.i64.wrap ((IntKind.i64.wrap (a0 * 2)) + 2)))) none) dY fun (v14:ByteArray)=>K v14)
set_option maxRecDepth 20000 in
theorem sy (a0:Int) {K:ByteArray→Hp→Prop} {h:Hp} (H:me a0 K h):Ct Tryz.prog ja #[(.int .i64 a0)] h fun v h'=>∃ r,v = dY r∧K r h':=aD [(.int .i64 a0)] Tryz.func239 rfl rfl rfl fun _=>ah<|ac<|aa (ag rfl) rfl<|ae<|ah<|ah<|ac<|aa (ad rfl) rfl<|aa (cx rfl rfl) rfl<|ae<|aC rfl H (fun k1 H2=>ah<|ac<|aa (ad rfl) rfl<|aa (ad rfl) rfl<|aa (bI rfl rfl) rfl<|ak (be H2 (eL rfl rfl rfl rfl rfl) rfl fun v8 _ H3=>aa (ag rfl) rfl<|ae<|ao<|aw (az rfl (aE rfl)) ⟨v8,rfl,H3⟩)) (fun k1 H2=>av<|ah<|ac<|aa (ad rfl) rfl<|aa (v_mul rfl rfl) rfl<|aa (ad rfl) rfl<|aa (v_mul rfl rfl) rfl<|aa (bI rfl rfl) rfl<|ak (be H2 (eL rfl rfl rfl rfl rfl) rfl fun v14 _ H4=>aa (ag rfl) rfl<|ae<|ao<|aw (az rfl (aE rfl)) ⟨v14,rfl,H4⟩))
def ga (a0:Int) (K:ByteArray→Hp→Prop) (b5:Nat) (s9:Int):Hp→Prop:=cl Tryz.prog qX [(.int .u64 s9)] dO fun r27=>hpv Tryz.prog (Instr.sliceAt vX (.pointer (some ⟨b5,0,none⟩)) (some (.int .i64 1)) (some (.int .i64 (IntKind.i64.wrap (1 + r27)))) none) R_Suint8 fun (v30:Sl)=>cl Tryz.prog oT [(sv v30),(.int .u64 s9)] R_ fun (_:Unit)=>br (decide (a0 < 0)) ( st (b5,0) [.int .u8 45]<|hpv Tryz.prog (Instr.sliceAt vX (.pointer (some ⟨b5,0,none⟩)) none (some (.int .i64 (IntKind.i64.wrap (1 + r27)))) none) R_Suint8 fun (v38:Sl)=>hpv Tryz.prog (convert 303 9 (sv v38)) dY fun (v39:ByteArray)=>K v39) ( hpv Tryz.prog (Instr.sliceAt vX (.pointer (some ⟨b5,0,none⟩)) (some (.int .i64 1)) (some (.int .i64 (IntKind.i64.wrap (1 + r27)))) none) R_Suint8 fun (v42:Sl)=>hpv Tryz.prog (convert 303 9 (sv v42)) dY fun (v43:ByteArray)=>K v43)
def jI (a0:Int) (a1:Int) (K:ByteArray→Hp→Prop):Hp→Prop:=br (a1 == 10) ( br ((decide (0 ≤ a0)) && (decide (a0 < 100))) ( cl Tryz.prog ja [(.int .i64 a0)] dY fun r19=>K r19) ( nw vX [.int .u8 0,.int .u8 0,.int .u8 0,.int .u8 0,.int .u8 0,.int .u8 0,.int .u8 0,.int .u8 0,.int .u8 0,.int .u8 0,.int .u8 0,.int .u8 0,.int .u8 0,.int .u8 0,.int .u8 0,.int .u8 0,.int .u8 0,.int .u8 0,.int .u8 0,.int .u8 0,.int .u8 0,.int .u8 0,.int .u8 0,.int .u8 0] fun b5=>br (decide (a0 < 0)) ( ga a0 K b5 (IntKind.u64.wrap (0 - (IntKind.u64.wrap a0)))) ( ga a0 K b5 (IntKind.u64.wrap a0)))) ( cl Tryz.prog qE [(sv (⟨none,0,0,none⟩:Sl)),(.int .u64 (IntKind.u64.wrap a0)),(.int .i64 a1),(.bool (decide (a0 < 0))),(.bool false)] R_Suint8_string fun r50=>K r50.2)
set_option maxRecDepth 20000 in
theorem pH (a0:Int) (a1:Int) {K:ByteArray→Hp→Prop} {h:Hp} (H:jI a0 a1 K h):Ct Tryz.prog gu #[(.int .i64 a0),(.int .i64 a1)] h fun v h'=>∃ r,v = dY r∧K r h':=aD [(.int .i64 a0),(.int .i64 a1)] Tryz.func238 rfl rfl rfl fun _=>ah<|ac<|aa (ag rfl) rfl<|ae<|ah<|ah<|ac<|aa (ad rfl) rfl<|aa (bV rfl rfl) rfl<|ae<|aC rfl H (fun k1 H2=>ah<|ah<|ac<|aa (ad rfl) rfl<|aa (v_le rfl rfl) rfl<|aa (ad rfl) rfl<|aj rfl rfl rfl (aA _) (fun g3=>wv (ad rfl)) rfl<|aj rfl rfl rfl (aA _) (fun g4=>wv (cx (aJ rfl g4) rfl)) rfl<|aa (bU rfl rfl) rfl<|ae<|aC rfl H2 (fun k5 H6=>ah<|ac<|aa (ad rfl) rfl<|ak (aB H6 en_239 rfl rfl fun r19 _ H7=>aa (ag rfl) rfl<|ae<|ao<|aw (az rfl (aE rfl)) ⟨r19,rfl,H7⟩)) (fun k5 H6=>av<|ah<|ac<|ak (to_alloc zero_300 rfl rfl H6 fun b5 _ H8=>ae<|ah<|ac<|aa (ad rfl) rfl<|aa (eo ⟨_,Tryz.underlying2⟩ Tryz.underlying25 rfl) rfl<|aa (ag rfl) rfl<|ae<|eB (ga a0 K b5) (fun s9=>[(0,(.int .i64 a0)),(5,(.pointer (some ⟨b5,0,none⟩))),(6,(.int .u64 s9))]) (fun s9=>[]) ( ah<|ac<|aa (ad rfl) rfl<|aa (cx rfl rfl) rfl<|ae<|aC rfl H8 (fun k21 H22=>ac<|aa (ad rfl) rfl<|aa (v_neg rfl) rfl<|aa (ag rfl) rfl<|ae<|cF (IntKind.u64.wrap (0 - (IntKind.u64.wrap a0))) H22 (.cons rfl (.cons rfl (.cons rfl (.nil _)))) .slnil) (fun k21 H22=>av<|cF (IntKind.u64.wrap a0) H22 (.cons rfl (.cons rfl (.cons rfl (.nil _)))) .slnil)) (fun s9 _ H10=>ah<|ac<|aa (ad rfl) rfl<|ak (aB H10 en_240 rfl rfl fun r27 _ H11=>aa (ag rfl) rfl<|ae<|ah<|ac<|aa (ad rfl) rfl<|aa (bI rfl rfl) rfl<|ak (be H11 (eL rfl rfl rfl rfl rfl) rfl fun v30 _ H12=>aa (ad rfl) rfl<|ak (aB H12 en_241 rfl rfl fun r32 _ H13=>ae<|ah<|ah<|ac<|aa (ad rfl) rfl<|aa (cx rfl rfl) rfl<|ae<|aC rfl H13 (fun k14 H15=>ah<|ac<|aa (bK arr_300 rfl rfl (by decide)) rfl<|ak (dC inf_5 rfl rfl rfl rfl rfl H15 fun _ H16=>ae<|ah<|ac<|aa (ad rfl) rfl<|aa (bI rfl rfl) rfl<|ak (be H16 (eL rfl rfl rfl rfl rfl) rfl fun v38 _ H17=>ak (be H17 (x_convert rfl) rfl fun v39 _ H18=>aa (ag rfl) rfl<|ae<|ao<|aw (az rfl (aE rfl)) ⟨v39,rfl,H18⟩)))) (fun k14 H15=>av<|ah<|ac<|aa (ad rfl) rfl<|aa (bI rfl rfl) rfl<|ak (be H15 (eL rfl rfl rfl rfl rfl) rfl fun v42 _ H19=>ak (be H19 (x_convert rfl) rfl fun v43 _ H20=>aa (ag rfl) rfl<|ae<|ao<|aw (az rfl (aE rfl)) ⟨v43,rfl,H20⟩)))))))))) (fun k1 H2=>av<|ah<|ac<|aa (ad rfl) rfl<|aa (eo ⟨_,Tryz.underlying2⟩ Tryz.underlying25 rfl) rfl<|aa (ad rfl) rfl<|aa (ad rfl) rfl<|aa (cx rfl rfl) rfl<|ak (aB H2 en_242 rfl rfl fun r50 _ H23=>aa (ad rfl) rfl<|aa (aq rfl rfl) rfl<|aa (aq rfl rfl) rfl<|aa (ag rfl) rfl<|aa (ag rfl) rfl<|ae<|ah<|ac<|aa (ad rfl) rfl<|aa (ag rfl) rfl<|ae<|ao<|aw (az rfl (aE rfl)) ⟨r50.2,rfl,H23⟩))
def mJ (a0:Int) (K:ByteArray→Hp→Prop):Hp→Prop:=cl Tryz.prog gu [(.int .i64 a0),(.int .i64 10)] dY fun r4=>K r4
set_option maxRecDepth 20000 in
theorem tu (a0:Int) {K:ByteArray→Hp→Prop} {h:Hp} (H:mJ a0 K h):Ct Tryz.prog jv #[(.int .i64 a0)] h fun v h'=>∃ r,v = dY r∧K r h':=aD [(.int .i64 a0)] Tryz.func237 rfl rfl rfl fun _=>ah<|ac<|aa (ag rfl) rfl<|ae<|ah<|ac<|aa (ad rfl) rfl<|ak (aB H en_238 rfl rfl fun r4 _ H1=>aa (ag rfl) rfl<|ae<|ao<|aw (az rfl (aE rfl)) ⟨r4,rfl,H1⟩)
end Go.Proofs.YtniiiakkdoiaiaaGreatDoor
