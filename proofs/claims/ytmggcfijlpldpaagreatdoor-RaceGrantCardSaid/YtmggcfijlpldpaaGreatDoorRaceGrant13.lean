/- Part of the proof of: The law RaceGrant returns true for every input, and leaves its arguments as they were. -/
import Derived.Test.YtmggcfijlpldpaaGreatDoorRaceGrant12
set_option linter.all false
set_option maxRecDepth 20000
namespace Go.Proofs.YtmggcfijlpldpaaGreatDoor
open Go Mb
namespace KK
def drain (c:Int):Nat→KK→KK
  | 0,k=>k
  | n + 1,k=>if 0 < mail k c then drain c n (post k c).2 else k
def turn1 (k:KK) (c:Int):KK × Bool:=if busy (drain c 5000 k) c = true then ((step (drain c 5000 k) c).2,true) else (drain c 5000 k,false)
def sweep:Nat→Int→KK→Bool→KK × Bool
  | 0,_,k,b=>(k,b)
  | n + 1,c,k,b=>sweep n (c + 1) (turn1 k c).1 ((turn1 k c).2 || b)
def anyBusy (k:KK):Nat→Int→Bool
  | 0,_=>false
  | n + 1,c=>busy k c || anyBusy k n (c + 1)
def settle (cores:Nat):Nat→KK→Bool × KK
  | 0,k=>(!anyBusy k cores 0,k)
  | n + 1,k=>if (sweep cores 0 k false).2 = false then (true,(sweep cores 0 k false).1) else settle cores n (sweep cores 0 k false).1
def lastA (core:Int) (es:List bQ):Nat→eW × Bool
  | 0=>(⟨0,0⟩,false)
  | n + 1=>match es[n]? with
    | some e=>if e.fCore = core then (e.fAnswer,decide (e.fEnd > 0)) else lastA core es n
    | none=>(⟨0,0⟩,false)
def run (k:KK) (core env:Int) (c:jx):(eW × Bool) × KK :=
  if (begin_ k core env c).1 = false then ((⟨0,0⟩,false),(begin_ k core env c).2)
  else if (settle 8 1000 (begin_ k core env c).2).1 = false then ((⟨0,0⟩,false),(settle 8 1000 (begin_ k core env c).2).2)
  else (lastA core (settle 8 1000 (begin_ k core env c).2).2.events (settle 8 1000 (begin_ k core env c).2).2.events.length,(settle 8 1000 (begin_ k core env c).2).2)
theorem access_now (k:KK) (c:Int) (x:KC):(access k c x).2.now = k.now:=by unfold access; split; rfl; split <;> rfl
theorem work_now (k:KK) (c:Int) (x:KC):(work k c x).now = k.now:=by
  unfold work
  split
  · exact access_now k c x
  · split
    · rfl
    · split
      · rfl
      · split <;> rfl
theorem step_now {k:KK} (h0:0 ≤ k.now) (h:k.now < 2 ^ 38) (c:Int):k.now ≤ (step k c).2.now∧(step k c).2.now ≤ k.now + 1:=by
  have hw:=wrapN h0 (by omega)
  unfold step
  split
  · exact ⟨Int.le_refl _,by show k.now ≤ k.now + 1; omega⟩
  · split
    · exact ⟨Int.le_refl _,by show k.now ≤ k.now + 1; omega⟩
    · show _ ≤ (work _ _ _).now∧(work _ _ _).now ≤ _
      rw [work_now]
      simp only [tick,hw]; omega
theorem post_now {k:KK} (h0:0 ≤ k.now) (h:k.now < 2 ^ 38) (c:Int):k.now ≤ (post k c).2.now∧(post k c).2.now ≤ k.now + 1:=by
  have hw:=wrapN h0 (by omega)
  unfold post
  split
  · exact ⟨Int.le_refl _,by show k.now ≤ k.now + 1; omega⟩
  · split
    · exact ⟨Int.le_refl _,by show k.now ≤ k.now + 1; omega⟩
    · show _ ≤ (tick k).now∧(tick k).now ≤ _
      simp only [tick,hw]; omega
theorem begin_now {k:KK} (h0:0 ≤ k.now) (h:k.now < 2 ^ 38) (core env:Int) (c:jx):k.now ≤ (begin_ k core env c).2.now∧(begin_ k core env c).2.now ≤ k.now + 1:=by
  have hw:=wrapN h0 (by omega)
  unfold begin_
  split
  · exact ⟨Int.le_refl _,by show k.now ≤ k.now + 1; omega⟩
  · simp only [hw]; omega
end KK
section
variable {x:Ptr} {l:List As}
theorem kern_n0 {k:KK} {h:Hp} (s:aE (co x k::l) h):0 ≤ k.now∧k.events.length ≤ k.now:=by
  obtain ⟨z,_,_,ok,_⟩:=rO s
  exact ⟨ok.n0,ok.evn⟩
theorem settle_l3 {Rec:Bool × Int→Hp→Prop} {k:KK} {b:Bool} {c:Int} {h:Hp} (h0:0 ≤ c) (hc:c < 100) (hn:k.now + 5001 < 2 ^ 37) (st:aE (co x k::l) h)
    (kk:∀ h',(KK.turn1 k c).1.now ≤ k.now + 5001→aE (co x (KK.turn1 k c).1::l) h'→Rec ((KK.turn1 k c).2 || b,c + 1) h'):Lp (gj x Rec (b,c)) 0 h:=by
  have hj:∀ d h',KK.drain c 5000 k = d→d.now ≤ k.now + 5000→aE (co x d::l) h'→eQ x Rec (b,c) () h':=by
    intro d h' e hd s1
    unfold eQ
    refine bH (i:=0) (nW x d c) rfl s1 fun r h2 hr s2=>?_
    refine bH (i:=0) (nW x d c) rfl s2 fun r' h3 hr' s3=>?_
    subst hr; subst hr'
    have hw:IntKind.i64.wrap (c + 1) = c + 1:=bR (by omega) (by omega)
    simp only [hw]
    refine aV (fun k2=>?_) (fun k2=>?_)
    · refine bH (i:=0) (sp_kern_Step x d c (by omega)) rfl s3 fun r h4 hr s4=>?_
      have e2:KK.turn1 k c = ((KK.step d c).2,true):=by unfold KK.turn1; rw [e,if_pos k2]
      have n1:=kern_n0 s3
      have n2:=KK.step_now n1.1 (by omega) c
      rw [e2] at kk
      rw [k2]
      exact kk h4 (by show (KK.step d c).2.now ≤ _; omega) s4
    · have e2:KK.turn1 k c = (d,false):=by unfold KK.turn1; rw [e,if_neg (by rw [k2]; exact Bool.false_ne_true)]
      rw [e2] at kk
      rw [k2]
      exact kk h3 (by show d.now ≤ _; omega) s3
  refine Lp.intro (fun (m:Int) h=>∃ (n:Nat) (d:KK),m = 5000 - n∧n ≤ 5000∧KK.drain c n d = KK.drain c 5000 k∧d.now ≤ k.now + (5000 - n)∧aE (co x d::l) h) (fun m _=>(5000 - m).toNat) ⟨5000,k,rfl,Nat.le_refl _,rfl,by omega,st⟩ ?_
  rintro m h1 ⟨n,d,rfl,hm,e,hd,s1⟩
  unfold gj
  refine aV (fun k1=>?_) (fun k1=>?_)
  · have hlt:0 < n:=by have:=of_decide_eq_true k1; omega
    obtain ⟨n,rfl⟩:∃ j,n = j + 1:=⟨n - 1,by omega⟩
    refine bH (i:=0) (sp_kern_Mail x d c) rfl s1 fun r h2 hr s2=>?_
    subst hr
    refine aV (fun k2=>?_) (fun k2=>?_)
    · have k2':0 < KK.mail d c:=of_decide_eq_true k2
      refine bH (i:=0) (sp_kern_Post x d c (by omega)) rfl s2 fun r h3 hr s3=>?_
      have n1:=kern_n0 s2
      have n2:=KK.post_now n1.1 (by omega) c
      have hw:IntKind.i64.wrap ((5000:Int) - ((n + 1:Nat):Int) + 1) = 5000 - (n:Int):=by rw [bR (by omega) (by omega)]; omega
      rw [hw]
      refine ⟨⟨n,_,rfl,by omega,?_,by omega,s3⟩,by show (5000 - (5000 - (n:Int))).toNat < (5000 - (5000 - ((n + 1:Nat):Int))).toNat; omega⟩
      rw [← e]
      exact (if_pos k2').symm
    · have k2':¬ 0 < KK.mail d c:=of_decide_eq_false k2
      exact hj d h2 (by rw [← e]; exact if_neg k2') (by omega) s2
  · have hz:n = 0:=by have:=of_decide_eq_false k1; omega
    subst hz
    exact hj d h1 e.symm (by omega) s1
theorem settle_l2 {Rec2:Int→Hp→Prop} {K:Bool→Hp→Prop} {k:KK} {m:Int} {cores:Nat} {h:Hp} (hc:cores ≤ 8) (hn:k.now + cores * 5001 < 2 ^ 37) (st:aE (co x k::l) h)
    (kt:∀ h',(KK.sweep cores 0 k false).2 = false→(KK.sweep cores 0 k false).1.now ≤ k.now + cores * 5001→aE (co x (KK.sweep cores 0 k false).1::l) h'→K true h')
    (kf:∀ h',(KK.sweep cores 0 k false).2 = true→(KK.sweep cores 0 k false).1.now ≤ k.now + cores * 5001→aE (co x (KK.sweep cores 0 k false).1::l) h'→Rec2 (IntKind.i64.wrap (m + 1)) h') :
    Lp (gl x cores K Rec2 m) (false,0) h:=by
  refine Lp.intro (fun (s:Bool × Int) h=>∃ (n:Nat) (d:KK),s.2 = (cores:Int) - n∧n ≤ cores∧KK.sweep n s.2 d s.1 = KK.sweep cores 0 k false∧d.now ≤ k.now + (cores - n) * 5001∧aE (co x d::l) h) (fun s _=>cores - s.2.toNat)
    ⟨cores,k,by simp,Nat.le_refl _,rfl,by simp,st⟩ ?_
  rintro ⟨b,c⟩ h1 ⟨n,d,e0,hm,e,hd,s1⟩
  simp only at e0 e
  subst e0
  unfold gl
  refine aV (fun k1=>?_) (fun k1=>?_)
  · have hlt:0 < n:=by have:=of_decide_eq_true k1; simp only at this; omega
    obtain ⟨n,rfl⟩:∃ j,n = j + 1:=⟨n - 1,by omega⟩
    have hq:(((cores:Int) - ((n + 1:Nat):Int)) * 5001) + 5001 = ((cores:Int) - n) * 5001:=by omega
    have hq2:((cores:Int) - n) * 5001 ≤ cores * 5001:=by omega
    refine settle_l3 (by omega) (by omega) (by omega) s1 fun h' hnow s2=>?_
    have hw:(cores:Int) - ((n + 1:Nat):Int) + 1 = (cores:Int) - n:=by omega
    refine ⟨⟨n,_,hw,by omega,?_,by omega,s2⟩,?_⟩
    · rw [← e]; rfl
    · show cores - ((cores:Int) - ((n + 1:Nat):Int) + 1).toNat < cores - ((cores:Int) - ((n + 1:Nat):Int)).toNat
      omega
  · have hz:n = 0:=by have:=of_decide_eq_false k1; simp only at this; omega
    subst hz
    have e':(d,b) = KK.sweep cores 0 k false:=e
    refine aV (fun k2=>?_) (fun k2=>?_)
    · have hb:b = false:=by simpa using k2
      rw [← e'] at kt
      exact kt h1 hb (by show d.now ≤ _; simpa using hd) s1
    · have hb:b = true:=by simpa using k2
      rw [← e'] at kf
      exact kf h1 hb (by show d.now ≤ _; simpa using hd) s1
theorem settle_l4 {K:Bool→Hp→Prop} {k:KK} {cores:Nat} {h:Hp} (hc:cores ≤ 8) (st:aE (co x k::l) h)
    (kk:∀ h',aE (co x k::l) h'→K (!KK.anyBusy k cores 0) h'):Lp (gi x cores K) 0 h:=by
  refine Lp.intro (fun (c:Int) h=>∃ n:Nat,c = (cores:Int) - n∧n ≤ cores∧KK.anyBusy k n c = KK.anyBusy k cores 0∧aE (co x k::l) h) (fun s _=>cores - s.toNat) ⟨cores,by simp,Nat.le_refl _,rfl,st⟩ ?_
  rintro c h1 ⟨n,rfl,hm,e,s1⟩
  unfold gi
  refine aV (fun k1=>?_) (fun k1=>?_)
  · have hlt:0 < n:=by have:=of_decide_eq_true k1; omega
    obtain ⟨n,rfl⟩:∃ j,n = j + 1:=⟨n - 1,by omega⟩
    refine bH (i:=0) (nW x k _) rfl s1 fun r h2 hr s2=>?_
    subst hr
    have e':(KK.busy k ((cores:Int) - ((n + 1:Nat):Int)) || KK.anyBusy k n ((cores:Int) - ((n + 1:Nat):Int) + 1)) = KK.anyBusy k cores 0:=e
    refine aV (fun k2=>?_) (fun k2=>?_)
    · rw [k2,Bool.true_or] at e'
      rw [← e'] at kk
      exact kk h2 s2
    · rw [k2,Bool.false_or] at e'
      have hw:IntKind.i64.wrap ((cores:Int) - ((n + 1:Nat):Int) + 1) = (cores:Int) - ((n + 1:Nat):Int) + 1:=bR (by omega) (by omega)
      rw [hw]
      refine ⟨⟨n,by omega,by omega,e',s2⟩,by omega⟩
  · have hz:n = 0:=by have:=of_decide_eq_false k1; omega
    subst hz
    have e':false = KK.anyBusy k cores 0:=e
    rw [← e'] at kk
    exact kk h1 s1
end
theorem sp_Settle (x:Ptr) (k:KK) (cores most:Nat) (hc:cores ≤ 8) (hm:most ≤ 1000) (hn:k.now < 2 ^ 36):Sp Tryz.prog fd [pv x,.int .i64 cores,.int .i64 most] az [co x k]
    (fun r=>pa_ (r = (KK.settle cores most k).1∧(KK.settle cores most k).2.now ≤ k.now + most * 40008) [co x (KK.settle cores most k).2]):=by
  intro h st
  refine uy _ _ _ ?_
  unfold nt
  refine Lp.intro (fun (m:Int) h=>∃ (n:Nat) (d:KK),m = (most:Int) - n∧n ≤ most∧KK.settle cores n d = KK.settle cores most k∧d.now ≤ k.now + (most - n) * 40008∧aE [co x d] h) (fun m _=>most - m.toNat)
    ⟨most,k,by simp,Nat.le_refl _,rfl,by simp,st⟩ ?_
  rintro m h1 ⟨n,d,rfl,hnm,e,hd,s1⟩
  unfold jp
  have hq:((most:Int) - n) * 40008 ≤ 1000 * 40008:=by omega
  have hq2:(cores:Int) * 5001 ≤ 40008:=by omega
  refine aV (fun k1=>?_) (fun k1=>?_)
  · have hlt:0 < n:=by have:=of_decide_eq_true k1; omega
    obtain ⟨n,rfl⟩:∃ j,n = j + 1:=⟨n - 1,by omega⟩
    have e':(if (KK.sweep cores 0 d false).2 = false then (true,(KK.sweep cores 0 d false).1) else KK.settle cores n (KK.sweep cores 0 d false).1) = KK.settle cores most k:=e
    refine settle_l2 hc (by omega) s1 (fun h' hb hnow s2=>?_) (fun h' hb hnow s2=>?_)
    · rw [if_pos hb] at e'
      rw [← e']
      exact aU ⟨rfl,by show (KK.sweep cores 0 d false).1.now ≤ _; omega⟩ s2
    · rw [if_neg (by rw [hb]; decide)] at e'
      have hw:IntKind.i64.wrap ((most:Int) - ((n + 1:Nat):Int) + 1) = (most:Int) - n:=by rw [bR (by omega) (by omega)]; omega
      rw [hw]
      exact ⟨⟨n,_,rfl,by omega,e',by omega,s2⟩,by omega⟩
  · have hz:n = 0:=by have:=of_decide_eq_false k1; omega
    subst hz
    have e':(!KK.anyBusy d cores 0,d) = KK.settle cores most k:=e
    refine settle_l4 hc s1 fun h' s2=>?_
    rw [← e']
    exact aU ⟨rfl,by show d.now ≤ _; simpa using hd⟩ s2
theorem run_yes {k:KK} {core env:Int} {c:jx} {d e:KK} (h1:(KK.begin_ k core env c) = (true,d)) (h2:KK.settle 8 1000 d = (true,e)):KK.run k core env c = (KK.lastA core e.events e.events.length,e):=by
  unfold KK.run
  rw [h1]
  dsimp only
  rw [if_neg (by decide),h2]
  dsimp only
  rw [if_neg (by decide)]
theorem run_l1 {s:Sl} {es:List bQ} {l:List As} {core:Int} {K:eW × Bool→Hp→Prop} {h:Hp} (hb:es.length < 2 ^ 38) (st:aE (vE s es::l) h)
    (kk:∀ h',aE (vE s es::l) h'→K (KK.lastA core es es.length) h'):Lp (fV core K s) (IntKind.i64.wrap ((s.len:Int) - 1),⟨0,0⟩) h:=by
  have hl:=(cd (j:=0) st rfl).1
  have hw0:IntKind.i64.wrap ((s.len:Int) - 1) = (es.length:Int) - 1:=by rw [hl,bR (by omega) (by omega)]
  rw [hw0]
  refine Lp.intro (fun (z:Int × eW) h=>∃ n:Nat,z = ((n:Int) - 1,⟨0,0⟩)∧n ≤ es.length∧KK.lastA core es n = KK.lastA core es es.length∧aE (vE s es::l) h) (fun z _=>(z.1 + 1).toNat) ⟨_,rfl,Nat.le_refl _,rfl,st⟩ ?_
  rintro _ h1 ⟨n,rfl,hn,e,s1⟩
  unfold fV
  refine aV (fun k1=>?_) (fun k1=>?_)
  · have hlt:0 < n:=by have:=of_decide_eq_true k1; simp only at this; omega
    obtain ⟨n,rfl⟩:∃ j,n = j + 1:=⟨n - 1,by omega⟩
    have hn':n < es.length:=by omega
    have hi:((n + 1:Nat):Int) - 1 = (n:Int):=by omega
    simp only [hi]
    have e':(match es[n]? with
      | some e=>if e.fCore = core then (e.fAnswer,decide (e.fEnd > 0)) else KK.lastA core es n
      | none=>(⟨0,0⟩,false)) = KK.lastA core es es.length:=e
    rw [aD hn'] at e'
    simp only at e'
    refine du s1 (j:=0) rfl (by omega) (by show (n:Int) < _; omega) fun q hq=>?_
    have lk:∀ {σ:Type} {enc:σ→List Value} {K:σ→Hp→Prop} (y:σ) (o:Nat),(∀ i v,(enc y)[i]? = some v→(es[n].C)[o + i]? = some v)→K y h1→ld (q.1,q.2 + Int.toNat (n:Int) * 16 + o) enc K h1:=by
      intro σ enc K y o he k
      exact ef (j:=0) (i:=n) (k:=o) y mi s1 rfl hq (by simp) (aD hn') he k
    refine lk es[n].fCore 0 (fun i v hv=>?_) ?_
    · rcases i with _ | i <;> first | exact hv | simp [cI] at hv
    refine aV (fun k2=>?_) (fun k2=>?_)
    · have k2':es[n].fCore = core:=by simpa using k2
      rw [if_pos k2'] at e'
      have hA:∀ i v,(ab.C es[n].fAnswer)[i]? = some v→(es[n].C)[10 + i]? = some v:=by
        intro i v hv
        rcases i with _ | _ | i <;> first | exact hv | simp [ab.C] at hv
      have hE:∀ i v,((cI .i64) es[n].fEnd)[i]? = some v→(es[n].C)[9 + i]? = some v:=by
        intro i v hv
        rcases i with _ | i <;> first | exact hv | simp [cI] at hv
      refine ⟨lk _ 10 hA (lk _ 9 hE ?_),lk _ 9 hE (lk _ 10 hA ?_)⟩
      · rw [e']; exact kk h1 s1
      · rw [e']; exact kk h1 s1
    · have k2':¬ es[n].fCore = core:=by simpa using k2
      rw [if_neg k2'] at e'
      rw [bR (by omega) (by omega)]
      exact ⟨⟨n,rfl,by omega,e',s1⟩,by show ((n:Int) - 1 + 1).toNat < ((n:Int) + 1).toNat; omega⟩
  · have hz:n = 0:=by have:=of_decide_eq_false k1; simp only at this; omega
    subst hz
    have e':((⟨0,0⟩,false):eW × Bool) = KK.lastA core es es.length:=e
    rw [← e'] at kk
    exact kk h1 s1
theorem run_no {k:KK} {core env:Int} {c:jx} {d e:KK} (h1:(KK.begin_ k core env c) = (true,d)) (h2:KK.settle 8 1000 d = (false,e)):KK.run k core env c = ((⟨0,0⟩,false),e):=by
  unfold KK.run
  rw [h1]
  dsimp only
  rw [if_neg (by decide),h2]
  dsimp only
  rw [if_pos rfl]
theorem run_tail (x:Ptr) (k:KK) (core env:Int) (c:jx) (d:KK) (h1:KK.begin_ k core env c = (true,d)) (hn:d.now ≤ k.now + 1) (hk:k.now < 2 ^ 35) {h:Hp} (s1:aE [co x d] h) :
    (cl Tryz.prog fd [(pv x),(.int .i64 8),(.int .i64 1000)] az fun r20 =>
      br (!r20) ((fun r h'=>pa_ (r = (KK.run k core env c).1∧(KK.run k core env c).2.now ≤ k.now + 40008001) [co x (KK.run k core env c).2] h') (⟨0,0⟩,false)) (
      cl Tryz.prog eL [(pv x)] dN fun r24 =>
      Lp (fV core (fun r h'=>pa_ (r = (KK.run k core env c).1∧(KK.run k core env c).2.now ≤ k.now + 40008001) [co x (KK.run k core env c).2] h') r24) ((IntKind.i64.wrap ((r24.len:Int) - 1)),(⟨0,0⟩:ab)))) h:=by
  have c8:=sp_Settle x d 8 1000 (Nat.le_refl _) (Nat.le_refl _) (by omega)
  generalize hz:KK.settle 8 1000 d = z at c8
  obtain ⟨b,e⟩:=z
  refine bH (i:=0) c8 rfl s1 fun r h2 hr s2=>?_
  obtain ⟨hr,hs⟩:=hr
  have hs':e.now ≤ d.now + 40008000:=hs
  have n2:=kern_n0 s2
  have hr':r = b:=hr
  rw [hr']
  cases b
  · rw [run_no h1 hz]
    exact dc rfl (aU ⟨rfl,by show e.now ≤ _; omega⟩ s2)
  · refine cZ rfl ?_
    refine vz (i:=0) (nV x _ (by show e.now < _; omega)) rfl s2 fun s h3 s3=>?_
    refine run_l1 (by show e.events.length < _; have:(e.events.length:Int) ≤ e.now:=n2.2; omega) s3 fun h4 s4=>?_
    rw [run_yes h1 hz]
    exact aU ⟨rfl,by show e.now ≤ _; omega⟩ (bX (l:=[_]) s4)
theorem sp_Run (x:Ptr) (k:KK) (core env:Int) (c:jx) (hn:k.now < 2 ^ 35):Sp Tryz.prog dH [pv x,.int .i64 core,.int .i64 env,.agg c.C.toArray] bf [co x k]
    (fun r=>pa_ (r = (KK.run k core env c).1∧(KK.run k core env c).2.now ≤ k.now + 40008001) [co x (KK.run k core env c).2]):=by
  intro h st
  have n0:=kern_n0 st
  have nb:=KK.begin_now n0.1 (by omega) core env c
  refine sim_messuagelaw16_Run _ _ _ _ ?_
  unfold qv
  refine bH (i:=0) (uu x k core env c (by omega)) rfl st fun r h1 hr s1=>?_
  subst hr
  refine aV (fun k1=>?_) (fun k1=>?_)
  · have k1':(KK.begin_ k core env c).1 = false:=by simpa using k1
    have e:KK.run k core env c = ((⟨0,0⟩,false),(KK.begin_ k core env c).2):=if_pos k1'
    rw [e]
    exact aU ⟨rfl,by show (KK.begin_ k core env c).2.now ≤ _; omega⟩ s1
  · have k1':(KK.begin_ k core env c).1 = true:=by simpa using k1
    exact run_tail x k core env c (KK.begin_ k core env c).2 (by rw [← k1']) (by omega) hn s1
end Go.Proofs.YtmggcfijlpldpaaGreatDoor
namespace Go.Proofs.YtmggcfijlpldpaaGreatDoor
open Go Mb
set_option linter.unusedVariables false
def errors_as_l2 (a1:Value) (a2:aG) (a3:Value) (K:Bool→Hp→Prop) (v48:Sl) (Rec25:Int→Hp→Prop) (s24:Int):Hp→Prop:=br (decide (s24 < (v48.len:Int))) ( ix v48 s24 fun q52=>ld (q52.1,q52.2 + Int.toNat s24 * 1) cV fun x53=>hpv Tryz.prog (do eqGuard .eql 195 (.tmp 54) (.const Value.nilIface) x53 Value.nilIface; binOp .eql 195 x53 Value.nilIface:Sem Value) az fun (v55:Bool)=>br v55 ( Rec25 (IntKind.i64.wrap (s24 + 1))) ( cl Tryz.prog ue [x53,a1,(.agg (aG.C a2).toArray),a3] az fun r60=>br r60 ( K true) ( Rec25 (IntKind.i64.wrap (s24 + 1))))) ( K false)
def wW (a1:Value) (a2:aG) (a3:Value) (K:Bool→Hp→Prop) (Rec2:Value→Hp→Prop) (s1:Value) (s11:Unit):Hp→Prop:=hpv Tryz.prog (Instr.typeAssert s1 gg iR true) ge fun (v37:Value × Bool)=>br v37.2 ( cln Tryz.prog (callMethod v37.1 "Unwrap" #[]) encV fun (v41:Value)=>hpv Tryz.prog (do eqGuard .eql 195 (.tmp 42) (.const Value.nilIface) v41 Value.nilIface; binOp .eql 195 v41 Value.nilIface:Sem Value) az fun (v43:Bool)=>br v43 ( K false) ( Rec2 v41)) ( hpv Tryz.prog (Instr.typeAssert s1 gg ik true) fN fun (v44:Value × Bool)=>br v44.2 ( cln Tryz.prog (callMethod v44.1 "Unwrap" #[]) R_Serror fun (v48:Sl)=>Lp (errors_as_l2 a1 a2 a3 K v48) 0) ( K false))
def wV (a1:Value) (a2:aG) (a3:Value) (K:Bool→Hp→Prop) (Rec2:Value→Hp→Prop) (s1:Value):Hp→Prop:=cln Tryz.prog (callFunc fU #[s1]) encV fun (v17:Value)=>cln Tryz.prog (callMethod v17 "AssignableTo" #[a3]) az fun (v19:Bool)=>br v19 ( cln Tryz.prog (callFunc eV #[(.agg (aG.C a2).toArray)]) ft fun (v21:aG)=>cln Tryz.prog (callFunc cL #[s1]) ft fun (v23:aG)=>cln Tryz.prog (callFunc fe #[(.agg (aG.C v21).toArray),(.agg (aG.C v23).toArray)]) R_ fun (v24:Unit)=>K true) ( hpv Tryz.prog (Instr.typeAssert s1 gg qk true) ng fun (v27:Value × Bool)=>br v27.2 ( cln Tryz.prog (callMethod v27.1 "As" #[a1]) az fun (v34:Bool)=>br v34 ( K true) ( wW a1 a2 a3 K Rec2 s1 ())) ( wW a1 a2 a3 K Rec2 s1 ()))
def sh_errors_as (a0:Value) (a1:Value) (a2:aG) (a3:Value) (K:Bool→Hp→Prop):Hp→Prop:=Lp (wV a1 a2 a3 K) a0
theorem sim_errors_as (a0:Value) (a1:Value) (a2:aG) (a3:Value) {K:Bool→Hp→Prop} {h:Hp} (H:sh_errors_as a0 a1 a2 a3 K h):Ct Tryz.prog ue #[a0,a1,(.agg (aG.C a2).toArray),a3] h fun v h'=>∃ r,v = az r∧K r h':=aw [a0,a1,(.agg (aG.C a2).toArray),a3] Tryz.func228 c c c fun _=>M<|aa<|cE (l:=aG.C a2) c c c fun b6=>O c<|ax<|bB (step:=wV a1 a2 a3 K) (fun s1=>[(0,s1),(1,a1),(3,a3),(6,(.pointer (some ⟨b6,0,none⟩)))]) (fun s1=>[bx b6 295 (aG.C a2)]) H (.cons c<|.cons c<|.cons c<|.cons c<|.nil _) (.cons_cons _ .slnil) fun Rec2 s1 _ H3=>ax<|aj<|M<|J c<|aa<|fS H3 (rA (vs:=[s1]) c) c fun v17 _ H4=>J c<|aa<|fS H4 (fR (vs:=[a3]) c c) c fun v19 _ H5=>ac<|av c H5 (fun k6 H7=>M<|bg (bA (k:=0) ag_295 c c c c) c<|aa<|fS H7 (rA (vs:=[(.agg (aG.C a2).toArray)]) c) c fun v21 _ H8=>J c<|aa<|fS H8 (rA (vs:=[s1]) c) c fun v23 _ H9=>aa<|fS H9 (rA (vs:=[(.agg (aG.C v21).toArray),(.agg (aG.C v23).toArray)]) c) c fun v24 _ H10=>ac<|M<|O c<|ag<|Y ⟨true,c,H10⟩) fun k6 H7=>am<|dX (wW a1 a2 a3 K Rec2 s1) (fun s11=>[(0,s1),(1,a1),(3,a3),(6,(.pointer (some ⟨b6,0,none⟩)))]) (fun s11=>[bx b6 295 (aG.C a2)]) (M<|J c<|aa<|aR H7 (fP c) c fun v27 _ H39=>J c<|p (ai c c)<|p (ai c c)<|p (aq c)<|O c<|M<|J c<|J c<|V c c (ay _) (fun g40=>wv<|ae c)<|V c c (ay _) (fun g41=>wv<|ae c)<|bP H39 (fun k43 H44=>G (Z k43)<|fS H44 (fR (vs:=[a1]) (aB c k43)<|aS (aB c k43) bO) c fun v34 _ H45=>p (aM c k43 c)<|ac<|av c H45 (fun k46 H47=>M<|O c<|ag<|Y ⟨true,c,H47⟩) fun k46 H47=>am<|cq () H47 (.cons c<|.cons c<|.cons c<|.cons c<|.nil _)<|.cons_cons _ .slnil) fun k43 H44=>W (aP k43)<|p (an c k43 c)<|ac<|ev_no c c<|am<|cq () H44 (.cons c<|.cons c<|.cons c<|.cons c<|.nil _)<|.cons_cons _ .slnil) fun s11 _ H12=>M<|J c<|ac<|ax<|M<|aa<|aR H12 (fP c) c fun v37 _ H13=>p (ai c c)<|p (ai c c)<|ac<|av c H13 (fun k14 H15=>M<|O c<|M<|J c<|aa<|fS H15 (fR (vs:=[]) c c) c fun v41 _ H16=>O c<|M<|J c<|aa<|aR H16 (gf c c) c fun v43 _ H17=>ac<|av c H17 (fun k18 H19=>M<|O c<|ag<|Y ⟨false,c,H19⟩) fun k18 H19=>am<|cF v41 H19 (.cons c<|.cons c<|.cons c<|.cons c<|.nil _)<|.cons_cons _ .slnil) fun k14 H15=>M<|aa<|aR H15 (fP c) c fun v44 _ H20=>p (ai c c)<|p (ai c c)<|ac<|av c H20 (fun k21 H22=>M<|O c<|aj<|M<|J c<|aa<|fS H22 (fR (vs:=[]) c c) c fun v48 _ H23=>p (dv c Tryz.underlying278 c)<|J c<|ac<|ax<|bB (step:=errors_as_l2 a1 a2 a3 K v48) (fun s24=>[(1,a1),(3,a3),(6,(.pointer (some ⟨b6,0,none⟩))),(48,(sv v48)),(49,(.int .i64 (v48.len:Int))),(50,(.int .i64 s24))]) (fun s24=>[bx b6 295 (aG.C a2)]) H23 (.cons c<|.cons c<|.cons c<|.cons c<|.cons c<|.cons c<|.nil _) (.cons_cons _ .slnil) fun Rec25 s24 _ H26=>M<|p (cm c c)<|ac<|aj<|av c H26 (fun k27 H28=>am<|aj<|ax<|M<|cg H28 fun q52 e29 h30 H31=>p (bm slc_278 (aL c<|aY e29) c h30)<|aa<|aT H31 sc_195 c (fun _=>c) c fun x53 H32=>O c<|aj<|M<|J c<|aa<|aR H32 (gf c c) c fun v55 _ H33=>ac<|av c H33 (fun k34 H35=>bh<|ap<|p (bt c c)<|J c<|ac<|cF (IntKind.i64.wrap (s24 + 1)) H35 (.cons c<|.cons c<|.cons c<|.cons c<|.cons c<|.cons c<|.nil _)<|.cons_cons _ .slnil) fun k34 H35=>am<|M<|J c<|J c<|bg (bA (k:=0) ag_295 c c c c) c<|J c<|aa<|D H35 en_228 fun r60 _ H36=>ac<|av c H36 (fun k37 H38=>M<|O c<|ag<|Y ⟨true,c,H38⟩) fun k37 H38=>am<|ap<|p (bt c c)<|J c<|ac<|cF (IntKind.i64.wrap (s24 + 1)) H38 (.cons c<|.cons c<|.cons c<|.cons c<|.cons c<|.cons c<|.nil _)<|.cons_cons _ .slnil) fun k27 H28=>bh<|M<|O c<|ag<|Y ⟨false,c,H28⟩) fun k21 H22=>M<|O c<|M<|O c<|ag<|Y ⟨false,c,H22⟩
def rU (a0:Value) (a1:Value) (K:Bool→Hp→Prop) (v14:aG) (v26:Value) (s11:Unit):Hp→Prop:=cl Tryz.prog ue [a0,a1,(.agg (aG.C v14).toArray),v26] az fun r41=>K r41
def wX (a0:Value) (a1:Value) (K:Bool→Hp→Prop) (v14:aG) (v16:Value) (s8:Unit):Hp→Prop:=cln Tryz.prog (callMethod v16 "Elem" #[]) encV fun (v26:Value)=>cln Tryz.prog (callMethod v26 "Kind" #[]) R_abi_Kind fun (v28:Int)=>br (v28 != 20) ( ld (0,0) cV fun x32=>cln Tryz.prog (callMethod v26 "Implements" #[x32]) az fun (v33:Bool)=>br (!v33) ( hpv Tryz.prog (Instr.makeInterface uI (.string str_6ae768b9)) encV fun (v36:Value)=>nope) ( rU a0 a1 K v14 v26 ())) ( rU a0 a1 K v14 v26 ())
def wY (a0:Value) (a1:Value) (K:Bool→Hp→Prop) (s4:Unit):Hp→Prop:=cln Tryz.prog (callFunc cL #[a1]) ft fun (v14:aG)=>cln Tryz.prog (callFunc ij #[(.agg (aG.C v14).toArray)]) encV fun (v16:Value)=>cln Tryz.prog (callMethod v16 "Kind" #[]) R_abi_Kind fun (v18:Int)=>br (!(v18 != 22)) ( cln Tryz.prog (callFunc eM #[(.agg (aG.C v14).toArray)]) az fun (v22:Bool)=>br v22 ( hpv Tryz.prog (Instr.makeInterface uI (.string str_ae9b7a08)) encV fun (v24:Value)=>nope) ( wX a0 a1 K v14 v16 ())) ( hpv Tryz.prog (Instr.makeInterface uI (.string str_ae9b7a08)) encV fun (v24:Value)=>nope)
def wx (a0:Value) (a1:Value) (K:Bool→Hp→Prop):Hp→Prop:=hpv Tryz.prog (do eqGuard .eql 195 (.tmp 8) (.const Value.nilIface) a0 Value.nilIface; binOp .eql 195 a0 Value.nilIface:Sem Value) az fun (v9:Bool)=>br v9 ( K false) ( hpv Tryz.prog (do eqGuard .eql 20 (.tmp 10) (.const Value.nilIface) a1 Value.nilIface; binOp .eql 20 a1 Value.nilIface:Sem Value) az fun (v11:Bool)=>br v11 ( hpv Tryz.prog (Instr.makeInterface uI (.string str_53947bae)) encV fun (v12:Value)=>nope) ( wY a0 a1 K ()))
theorem sim_errors_As (a0:Value) (a1:Value) {K:Bool→Hp→Prop} {h:Hp} (H:wx a0 a1 K h):Ct Tryz.prog uf #[a0,a1] h fun v h'=>∃ r,v = az r∧K r h':=aw [a0,a1] Tryz.func223 c c c fun _=>M<|O c<|aj<|M<|J c<|aa<|aR H (gf c c) c fun v9 _ H1=>ac<|av c H1 (fun k2 H3=>M<|O c<|ag<|Y ⟨false,c,H3⟩) fun k2 H3=>am<|dX (wY a0 a1 K) (fun s4=>[(0,a0),(1,a1)]) (fun s4=>[]) (M<|J c<|aa<|aR H3 (gf c c) c fun v11 _ H34=>ac<|av c H34 (fun k35 H36=>ap<|aa<|aR H36 (gn c) c fun v12 _ H37=>evlNo H37) fun k35 H36=>am<|cq () H36 (.cons c<|.cons c<|.nil _) .slnil) fun s4 _ H5=>M<|J c<|aa<|fS H5 (rA (vs:=[a1]) c) c fun v14 _ H6=>aa<|aI (l:=aG.C (⟨none,none,0⟩:aG)) zero_295 c c fun b5=>aa<|aN (k:=0) (vs:=aG.C v14) inf_295 c c c c c c c<|ac<|M<|bg (bA (k:=0) ag_295 c c c c) c<|aa<|fS H6 (rA (vs:=[(.agg (aG.C v14).toArray)]) c) c fun v16 _ H7=>O c<|dX (wX a0 a1 K v14 v16) (fun s8=>[(0,a0),(1,a1),(5,(.pointer (some ⟨b5,0,none⟩))),(6,v16)]) (fun s8=>[bx b5 295 (aG.C v14)]) (M<|J c<|aa<|fS H7 (fR (vs:=[]) c c) c fun v18 _ H24=>p (nO c c)<|J c<|V c c (aK _) (fun g25=>cv<|bA (k:=0) ag_295 c c c c)<|bP H24 (fun k27 H28=>G (Z<|bS k27)<|fS H28 (rA (vs:=[(.agg (aG.C v14).toArray)])<|aS (aB c k27) bO) c fun v22 _ H29=>p (an c (bS k27) c)<|ac<|av c H29 (fun k30 H31=>ap<|aa<|aR H31 (gn c) c fun v24 _ H32=>evlNo H32) fun k30 H31=>am<|cq () H31 (.cons c<|.cons c<|.cons c<|.cons c<|.nil _)<|.cons_cons _ .slnil) fun k27 H28=>W (bF<|bz k27)<|p (aM c (bz k27) c)<|ac<|lq c c<|ap<|aa<|aR H28 (gn c) c fun v24 _ H33=>evlNo H33) fun s8 _ H9=>M<|J c<|aa<|fS H9 (fR (vs:=[]) c c) c fun v26 _ H10=>O c<|dX (rU a0 a1 K v14 v26) (fun s11=>[(0,a0),(1,a1),(5,(.pointer (some ⟨b5,0,none⟩))),(7,v26)]) (fun s11=>[bx b5 295 (aG.C v14)]) (M<|J c<|aa<|fS H10 (fR (vs:=[]) c c) c fun v28 _ H14=>p (nO c c)<|J c<|V c c (ay _) (fun g15=>wv<|ae c)<|bP H14 (fun k17 H18=>G (Z k17)<|aT H18 sc_243 c (fun _=>c) c fun x32 H19=>G (Z k17)<|fS H19 (fR (vs:=[x32]) (aB c k17) c) c fun v33 _ H20=>G (Z k17)<|z_p (cf c)<|p (aM c k17 c)<|ac<|av c H20 (fun k21 H22=>ap<|aa<|aR H22 (gn c) c fun v36 _ H23=>evlNo H23) fun k21 H22=>am<|cq () H22 (.cons c<|.cons c<|.cons c<|.cons c<|.nil _)<|.cons_cons _ .slnil) fun k17 H18=>W (aP k17)<|W (aP k17)<|W (aP k17)<|p (an c k17 c)<|ac<|ev_no c c<|am<|cq () H18 (.cons c<|.cons c<|.cons c<|.cons c<|.nil _)<|.cons_cons _ .slnil) fun s11 _ H12=>M<|J c<|J c<|bg (bA (k:=0) ag_295 c c c c) c<|J c<|aa<|D H12 en_228 fun r41 _ H13=>O c<|ag<|Y ⟨r41,c,H13⟩
def errors_is_l2 (a1:Value) (a2:Bool) (K:Bool→Hp→Prop) (v43:Sl) (Rec26:Int→Hp→Prop) (s25:Int):Hp→Prop:=br (decide (s25 < (v43.len:Int))) ( ix v43 s25 fun q47=>ld (q47.1,q47.2 + Int.toNat s25 * 1) cV fun x48=>cl Tryz.prog ny [x48,a1,(.bool a2)] az fun r52=>br r52 ( K true) ( Rec26 (IntKind.i64.wrap (s25 + 1)))) ( K false)
def rT (a1:Value) (a2:Bool) (K:Bool→Hp→Prop) (Rec2:Value→Hp→Prop) (s1:Value) (s12:Unit):Hp→Prop:=hpv Tryz.prog (Instr.typeAssert s1 gg iR true) ge fun (v32:Value × Bool)=>br v32.2 ( cln Tryz.prog (callMethod v32.1 "Unwrap" #[]) encV fun (v36:Value)=>hpv Tryz.prog (do eqGuard .eql 195 (.tmp 37) (.const Value.nilIface) v36 Value.nilIface; binOp .eql 195 v36 Value.nilIface:Sem Value) az fun (v38:Bool)=>br v38 ( K false) ( Rec2 v36)) ( hpv Tryz.prog (Instr.typeAssert s1 gg ik true) fN fun (v39:Value × Bool)=>br v39.2 ( cln Tryz.prog (callMethod v39.1 "Unwrap" #[]) R_Serror fun (v43:Sl)=>Lp (errors_is_l2 a1 a2 K v43) 0) ( K false))
def errors_is_l3 (a1:Value) (a2:Bool) (K:Bool→Hp→Prop) (v43:Sl) (Rec60:Int→Hp→Prop) (s59:Int):Hp→Prop:=br (decide (s59 < (v43.len:Int))) ( ix v43 s59 fun q47=>ld (q47.1,q47.2 + Int.toNat s59 * 1) cV fun x48=>cl Tryz.prog ny [x48,a1,(.bool a2)] az fun r52=>br r52 ( K true) ( Rec60 (IntKind.i64.wrap (s59 + 1)))) ( K false)
def wU (a1:Value) (a2:Bool) (K:Bool→Hp→Prop) (Rec2:Value→Hp→Prop) (s1:Value) (s46:Unit):Hp→Prop:=hpv Tryz.prog (Instr.typeAssert s1 gg iR true) ge fun (v32:Value × Bool)=>br v32.2 ( cln Tryz.prog (callMethod v32.1 "Unwrap" #[]) encV fun (v36:Value)=>hpv Tryz.prog (do eqGuard .eql 195 (.tmp 37) (.const Value.nilIface) v36 Value.nilIface; binOp .eql 195 v36 Value.nilIface:Sem Value) az fun (v38:Bool)=>br v38 ( K false) ( Rec2 v36)) ( hpv Tryz.prog (Instr.typeAssert s1 gg ik true) fN fun (v39:Value × Bool)=>br v39.2 ( cln Tryz.prog (callMethod v39.1 "Unwrap" #[]) R_Serror fun (v43:Sl)=>Lp (errors_is_l3 a1 a2 K v43) 0) ( K false))
def rS (a1:Value) (a2:Bool) (K:Bool→Hp→Prop) (Rec2:Value→Hp→Prop) (s1:Value):Hp→Prop:=br a2 ( hpv Tryz.prog (do eqGuard .eql 195 (.tmp 16) (.tmp 17) s1 a1; binOp .eql 195 s1 a1:Sem Value) az fun (v18:Bool)=>br v18 ( K true) ( hpv Tryz.prog (Instr.typeAssert s1 gg lU true) jw fun (v22:Value × Bool)=>br v22.2 ( cln Tryz.prog (callMethod v22.1 "Is" #[a1]) az fun (v29:Bool)=>br v29 ( K true) ( rT a1 a2 K Rec2 s1 ())) ( rT a1 a2 K Rec2 s1 ()))) ( hpv Tryz.prog (Instr.typeAssert s1 gg lU true) jw fun (v22:Value × Bool)=>br v22.2 ( cln Tryz.prog (callMethod v22.1 "Is" #[a1]) az fun (v29:Bool)=>br v29 ( K true) ( wU a1 a2 K Rec2 s1 ())) ( wU a1 a2 K Rec2 s1 ()))
def wu (a0:Value) (a1:Value) (a2:Bool) (K:Bool→Hp→Prop):Hp→Prop:=Lp (rS a1 a2 K) a0
theorem sim_errors_is (a0:Value) (a1:Value) (a2:Bool) {K:Bool→Hp→Prop} {h:Hp} (H:wu a0 a1 a2 K h):Ct Tryz.prog ny #[a0,a1,(.bool a2)] h fun v h'=>∃ r,v = az r∧K r h':=aw [a0,a1,(.bool a2)] Tryz.func183 c c c fun _=>M<|O c<|ax<|bB (step:=rS a1 a2 K) (fun s1=>[(0,s1),(1,a1),(2,(.bool a2))]) (fun s1=>[]) H (.cons c<|.cons c<|.cons c<|.nil _) .slnil fun Rec2 s1 _ H3=>ax<|aj<|M<|J c<|J c<|V c c (ay _) (fun g4=>wv<|ae c)<|V c c (ay _) (fun g5=>wv<|ae c)<|bP H3 (fun k7 H8=>G (Z k7)<|aR H8 (gf (aB c k7)<|aB c k7) c fun v18 _ H9=>p (aM c k7 c)<|ac<|av c H9 (fun k10 H11=>M<|O c<|ag<|Y ⟨true,c,H11⟩) fun k10 H11=>am<|dX (rT a1 a2 K Rec2 s1) (fun s12=>[(0,s1),(1,a1),(2,(.bool a2))]) (fun s12=>[]) (M<|J c<|aa<|aR H11 (fP c) c fun v22 _ H37=>J c<|p (ai c c)<|p (ai c c)<|p (aq c)<|O c<|M<|J c<|J c<|V c c (ay _) (fun g38=>wv<|ae c)<|V c c (ay _) (fun g39=>wv<|ae c)<|bP H37 (fun k41 H42=>G (Z k41)<|fS H42 (fR (vs:=[a1]) (aB c k41)<|aS (aB c k41) bO) c fun v29 _ H43=>p (aM c k41 c)<|ac<|av c H43 (fun k44 H45=>M<|O c<|ag<|Y ⟨true,c,H45⟩) fun k44 H45=>am<|cq () H45 (.cons c<|.cons c<|.cons c<|.nil _) .slnil) fun k41 H42=>W (aP k41)<|p (an c k41 c)<|ac<|ev_no c c<|am<|cq () H42 (.cons c<|.cons c<|.cons c<|.nil _) .slnil) fun s12 _ H13=>M<|J c<|ac<|ax<|M<|aa<|aR H13 (fP c) c fun v32 _ H14=>p (ai c c)<|p (ai c c)<|ac<|av c H14 (fun k15 H16=>M<|O c<|M<|J c<|aa<|fS H16 (fR (vs:=[]) c c) c fun v36 _ H17=>O c<|M<|J c<|aa<|aR H17 (gf c c) c fun v38 _ H18=>ac<|av c H18 (fun k19 H20=>M<|O c<|ag<|Y ⟨false,c,H20⟩) fun k19 H20=>am<|cF v36 H20 (.cons c<|.cons c<|.cons c<|.nil _) .slnil) fun k15 H16=>M<|aa<|aR H16 (fP c) c fun v39 _ H21=>p (ai c c)<|p (ai c c)<|ac<|av c H21 (fun k22 H23=>M<|O c<|aj<|M<|J c<|aa<|fS H23 (fR (vs:=[]) c c) c fun v43 _ H24=>p (dv c Tryz.underlying278 c)<|J c<|ac<|ax<|bB (step:=errors_is_l2 a1 a2 K v43) (fun s25=>[(1,a1),(2,(.bool a2)),(43,(sv v43)),(44,(.int .i64 (v43.len:Int))),(45,(.int .i64 s25))]) (fun s25=>[]) H24 (.cons c<|.cons c<|.cons c<|.cons c<|.cons c<|.nil _) .slnil fun Rec26 s25 _ H27=>M<|p (cm c c)<|ac<|aj<|av c H27 (fun k28 H29=>am<|aj<|ax<|M<|cg H29 fun q47 e30 h31 H32=>p (bm slc_278 (aL c<|aY e30) c h31)<|aa<|aT H32 sc_195 c (fun _=>c) c fun x48 H33=>O c<|M<|J c<|J c<|J c<|aa<|D H33 en_183 fun r52 _ H34=>ac<|av c H34 (fun k35 H36=>M<|O c<|ag<|Y ⟨true,c,H36⟩) fun k35 H36=>am<|ap<|p (bt c c)<|J c<|ac<|cF (IntKind.i64.wrap (s25 + 1)) H36 (.cons c<|.cons c<|.cons c<|.cons c<|.cons c<|.nil _) .slnil) fun k28 H29=>bh<|M<|O c<|ag<|Y ⟨false,c,H29⟩) fun k22 H23=>M<|O c<|M<|O c<|ag<|Y ⟨false,c,H23⟩) fun k7 H8=>W (aP k7)<|p (an c k7 c)<|ac<|ev_no c c<|am<|dX (wU a1 a2 K Rec2 s1) (fun s46=>[(0,s1),(1,a1),(2,(.bool a2))]) (fun s46=>[]) (M<|J c<|aa<|aR H8 (fP c) c fun v22 _ H71=>J c<|p (ai c c)<|p (ai c c)<|p (aq c)<|O c<|M<|J c<|J c<|V c c (ay _) (fun g72=>wv<|ae c)<|V c c (ay _) (fun g73=>wv<|ae c)<|bP H71 (fun k75 H76=>G (Z k75)<|fS H76 (fR (vs:=[a1]) (aB c k75)<|aS (aB c k75) bO) c fun v29 _ H77=>p (aM c k75 c)<|ac<|av c H77 (fun k78 H79=>M<|O c<|ag<|Y ⟨true,c,H79⟩) fun k78 H79=>am<|cq () H79 (.cons c<|.cons c<|.cons c<|.nil _) .slnil) fun k75 H76=>W (aP k75)<|p (an c k75 c)<|ac<|ev_no c c<|am<|cq () H76 (.cons c<|.cons c<|.cons c<|.nil _) .slnil) fun s46 _ H47=>M<|J c<|ac<|ax<|M<|aa<|aR H47 (fP c) c fun v32 _ H48=>p (ai c c)<|p (ai c c)<|ac<|av c H48 (fun k49 H50=>M<|O c<|M<|J c<|aa<|fS H50 (fR (vs:=[]) c c) c fun v36 _ H51=>O c<|M<|J c<|aa<|aR H51 (gf c c) c fun v38 _ H52=>ac<|av c H52 (fun k53 H54=>M<|O c<|ag<|Y ⟨false,c,H54⟩) fun k53 H54=>am<|cF v36 H54 (.cons c<|.cons c<|.cons c<|.nil _) .slnil) fun k49 H50=>M<|aa<|aR H50 (fP c) c fun v39 _ H55=>p (ai c c)<|p (ai c c)<|ac<|av c H55 (fun k56 H57=>M<|O c<|aj<|M<|J c<|aa<|fS H57 (fR (vs:=[]) c c) c fun v43 _ H58=>p (dv c Tryz.underlying278 c)<|J c<|ac<|ax<|bB (step:=errors_is_l3 a1 a2 K v43) (fun s59=>[(1,a1),(2,(.bool a2)),(43,(sv v43)),(44,(.int .i64 (v43.len:Int))),(45,(.int .i64 s59))]) (fun s59=>[]) H58 (.cons c<|.cons c<|.cons c<|.cons c<|.cons c<|.nil _) .slnil fun Rec60 s59 _ H61=>M<|p (cm c c)<|ac<|aj<|av c H61 (fun k62 H63=>am<|aj<|ax<|M<|cg H63 fun q47 e64 h65 H66=>p (bm slc_278 (aL c<|aY e64) c h65)<|aa<|aT H66 sc_195 c (fun _=>c) c fun x48 H67=>O c<|M<|J c<|J c<|J c<|aa<|D H67 en_183 fun r52 _ H68=>ac<|av c H68 (fun k69 H70=>M<|O c<|ag<|Y ⟨true,c,H70⟩) fun k69 H70=>am<|ap<|p (bt c c)<|J c<|ac<|cF (IntKind.i64.wrap (s59 + 1)) H70 (.cons c<|.cons c<|.cons c<|.cons c<|.cons c<|.nil _) .slnil) fun k62 H63=>bh<|M<|O c<|ag<|Y ⟨false,c,H63⟩) fun k56 H57=>M<|O c<|M<|O c<|ag<|Y ⟨false,c,H57⟩
def ww (a0:Value) (a1:Value) (K:Bool→Hp→Prop):Hp→Prop:=hpv Tryz.prog (do eqGuard .eql 195 (.tmp 6) (.const Value.nilIface) a0 Value.nilIface; binOp .eql 195 a0 Value.nilIface:Sem Value) az fun (v7:Bool)=>br (!v7) ( hpv Tryz.prog (do eqGuard .eql 195 (.tmp 9) (.const Value.nilIface) a1 Value.nilIface; binOp .eql 195 a1 Value.nilIface:Sem Value) az fun (v10:Bool)=>br v10 ( hpv Tryz.prog (do eqGuard .eql 195 (.tmp 12) (.tmp 13) a0 a1; binOp .eql 195 a0 a1:Sem Value) az fun (v14:Bool)=>K v14) ( cln Tryz.prog (callFunc fU #[a1]) encV fun (v16:Value)=>cln Tryz.prog (callMethod v16 "Comparable" #[]) az fun (v17:Bool)=>cl Tryz.prog ny [a0,a1,(.bool v17)] az fun r21=>K r21)) ( hpv Tryz.prog (do eqGuard .eql 195 (.tmp 12) (.tmp 13) a0 a1; binOp .eql 195 a0 a1:Sem Value) az fun (v14:Bool)=>K v14)
theorem sim_errors_Is (a0:Value) (a1:Value) {K:Bool→Hp→Prop} {h:Hp} (H:ww a0 a1 K h):Ct Tryz.prog nz #[a0,a1] h fun v h'=>∃ r,v = az r∧K r h':=aw [a0,a1] Tryz.func141 c c c fun _=>M<|O c<|aj<|M<|J c<|aa<|aR H (gf c c) c fun v7 _ H1=>J c<|V c c (aK _) (fun g2=>wv<|ae c)<|bP H1 (fun k4 H5=>G (Z<|bS k4)<|aR H5 (gf (aB c k4) c) c fun v10 _ H6=>p (an c (bS k4) c)<|ac<|av c H6 (fun k7 H8=>M<|J c<|J c<|aa<|aR H8 (gf c c) c fun v14 _ H9=>O c<|ag<|Y ⟨v14,c,H9⟩) fun k7 H8=>am<|M<|J c<|aa<|fS H8 (rA (vs:=[a1]) c) c fun v16 _ H10=>aa<|fS H10 (fR (vs:=[]) c c) c fun v17 _ H11=>O c<|M<|J c<|J c<|J c<|aa<|D H11 en_183 fun r21 _ H12=>O c<|ag<|Y ⟨r21,c,H12⟩) fun k4 H5=>W (bF<|bz k4)<|p (aM c (bz k4) c)<|ac<|lq c c<|M<|J c<|J c<|aa<|aR H5 (gf c c) c fun v14 _ H13=>O c<|ag<|Y ⟨v14,c,H13⟩
end Go.Proofs.YtmggcfijlpldpaaGreatDoor
namespace Go.Proofs.YtmggcfijlpldpaaGreatDoor
open Go Mb
set_option linter.unusedVariables false
def sh_trap_Of (a0:Int) (K:Value→Hp→Prop):Hp→Prop:=br (a0 == 0) ( K Value.nilIface) ( nw ni (bU.C (⟨a0,(-1),(⟨0,0,0,0,0⟩:ah),Value.nilIface⟩:bU)) fun b7=>hpv Tryz.prog (Instr.makeInterface bc (.pointer (some ⟨b7,0,none⟩))) encV fun (v8:Value)=>K v8)
theorem sim_trap_Of (a0:Int) {K:Value→Hp→Prop} {h:Hp} (H:sh_trap_Of a0 K h):Ct Tryz.prog kg #[(.int .i64 a0)] h fun v h'=>∃ r,v = ii r∧K r h':=aw [(.int .i64 a0)] Tryz.func142 c c c fun _=>M<|O c<|aj<|M<|J c<|p (bK c c)<|ac<|av c H (fun k1 H2=>M<|O c<|ag<|Y ⟨Value.nilIface,c,H2⟩) fun k1 H2=>am<|M<|J c<|p (aX c<|build_248_0_1 a0 (-1))<|aa<|gT c c c H2 fun b7 _ H3=>aa<|aR H3 (gn c) c fun v8 _ H4=>O c<|ag<|Y ⟨v8,c,H4⟩
def mq (K:(Ptr × Bool)→Hp→Prop) (b4:Nat) (s2:Bool):Hp→Prop:=br s2 ( K (none,false)) ( ld (b4,0) cP fun x13=>K (x13,true))
def uz (a0:Value) (K:(Ptr × Bool)→Hp→Prop):Hp→Prop:=nw bc [pv none] fun b4=>hpv Tryz.prog (Instr.makeInterface bw (.pointer (some ⟨b4,0,none⟩))) encV fun (v6:Value)=>cl Tryz.prog uf [a0,v6] az fun r7=>br (!(!r7)) ( ld (b4,0) cP fun x10=>mq K b4 x10.isNone) ( mq K b4 true)
theorem sim_trap_First (a0:Value) {K:(Ptr × Bool)→Hp→Prop} {h:Hp} (H:uz a0 K h):Ct Tryz.prog jI #[a0] h fun v h'=>∃ r,v = eA r∧K r h':=aw [a0] Tryz.func217 c c c fun _=>M<|p (aq c)<|O c<|M<|aa<|to_alloc zero_246 c c H fun b4 _ H1=>ac<|aj<|dX (mq K b4) (fun s2=>[(4,(.pointer (some ⟨b4,0,none⟩))),(12,(.bool s2))]) (fun s2=>[]) (ap<|J c<|aa<|aR H1 (gn c) c fun v6 _ H7=>aa<|D H7 en_223 fun r7 _ H8=>p (cf c)<|J c<|bP H8 (fun k10 H11=>G (Z<|bS k10)<|aT H11 sc_246 c (fun _=>c) c fun x10 H12=>G (Z<|bS k10)<|z_p (ch Tryz.underlying246 c)<|p (an c (bS k10) c)<|ac<|cq x10.isNone H12 (.cons c<|.cons c<|.nil _) .slnil) fun k10 H11=>W (bF<|bz k10)<|W (bF<|bz k10)<|p (aM c (bz k10) c)<|ac<|cq true H11 (.cons c<|.cons c<|.nil _) .slnil) fun s2 _ H3=>av c H3 (fun k4 H5=>M<|p (aq c)<|O c<|ag<|bo (bL c (bV c)<|bV c) ⟨(none,false),c,H5⟩) fun k4 H5=>am<|M<|aa<|aT H5 sc_246 c (fun _=>c) c fun x13 H6=>p (aq c)<|O c<|ag<|bo (bL c (bV c)<|bV c) ⟨(x13,true),c,H6⟩
def sh_trap_Code (a0:Value) (K:Int→Hp→Prop):Hp→Prop:=hpv Tryz.prog (do eqGuard .eql 195 (.tmp 5) (.const Value.nilIface) a0 Value.nilIface; binOp .eql 195 a0 Value.nilIface:Sem Value) az fun (v6:Bool)=>br v6 ( K 0) ( cl Tryz.prog jI [a0] eA fun r9=>br r9.2 ( nn r9.1 fun q14=>ld (q14.1,q14.2 + 0) (cI .i64) fun x16=>K x16) ( K 9))
theorem sim_trap_Code (a0:Value) {K:Int→Hp→Prop} {h:Hp} (H:sh_trap_Code a0 K h):Ct Tryz.prog uc #[a0] h fun v h'=>∃ r,v = aZ r∧K r h':=aw [a0] Tryz.func201 c c c fun _=>M<|O c<|aj<|M<|J c<|aa<|aR H (gf c c) c fun v6 _ H1=>ac<|av c H1 (fun k2 H3=>M<|O c<|ag<|Y ⟨0,c,H3⟩) fun k2 H3=>am<|aj<|M<|J c<|aa<|D H3 en_217 fun r9 _ H4=>J c<|p (ai c c)<|p (ai c c)<|p (aq c)<|O c<|M<|J c<|ac<|av c H4 (fun k5 H6=>M<|J c<|bC H6 fun q14 e7 H8=>p (aH<|aL c<|ao e7)<|p (ad vq c)<|aa<|aT H8 nu c (fun _=>c) c fun x16 H9=>O c<|ag<|Y ⟨x16,c,H9⟩) fun k5 H6=>am<|M<|O c<|ag<|Y ⟨9,c,H6⟩
def sh_trap_In (a0:Int) (a1:ah) (a2:Value) (K:Value→Hp→Prop):Hp→Prop:=hpv Tryz.prog (do eqGuard .eql 195 (.tmp 7) (.const Value.nilIface) a2 Value.nilIface; binOp .eql 195 a2 Value.nilIface:Sem Value) az fun (v8:Bool)=>br v8 ( K Value.nilIface) ( cl Tryz.prog uc [a2] aZ fun r10=>hpv Tryz.prog (Instr.build ni #[(0,(.int .i64 r10)),(1,(.int .i64 a0)),(2,(.agg (ah.C a1).toArray)),(3,a2)]) R_trap_Trap fun (v14:bU)=>nw ni (bU.C v14) fun b15=>hpv Tryz.prog (Instr.makeInterface bc (.pointer (some ⟨b15,0,none⟩))) encV fun (v16:Value)=>K v16)
theorem sim_trap_In (a0:Int) (a1:ah) (a2:Value) {K:Value→Hp→Prop} {h:Hp} (H:sh_trap_In a0 a1 a2 K h):Ct Tryz.prog n_trap_In #[(.int .i64 a0),(.agg (ah.C a1).toArray),a2] h fun v h'=>∃ r,v = ii r∧K r h':=aw [(.int .i64 a0),(.agg (ah.C a1).toArray),a2] Tryz.func177 c c c fun _=>M<|aa<|cE (l:=ah.C a1) c c c fun b4=>O c<|aj<|M<|J c<|aa<|aR H (gf c c) c fun v8 _ H1=>ac<|av c H1 (fun k2 H3=>M<|O c<|ag<|Y ⟨Value.nilIface,c,H3⟩) fun k2 H3=>am<|aj<|bj (n:=9) [bx b4 34 (ah.C a1)] ci c (.cons_cons _ .slnil)<|U 0 c (ae c)<|U 2 c (ae c)<|z_E 3 c (dY (k:=0) fj c c c c)<|U 4 c (ae c)<|I 1 c<|D H3 en_201 fun r10 _ H4=>⟨.cons_cons _ .slnil,I 5 c<|aR H4 (x_build (vs:=[(.int .i64 r10),(.int .i64 a0),(.agg (ah.C a1).toArray),a2]) c) c fun v14 _ H5=>⟨.cons_cons _ .slnil,I 6 c<|gT c c c H5 fun b15 _ H6=>⟨.cons_cons _ .slnil,I 7 c<|aR H6 (gn c) c fun v16 _ H7=>⟨.cons_cons _ .slnil,U 8 c (aq c)<|aQ (by kernel_rfl)<|ag<|Y ⟨v16,c,H7⟩⟩⟩⟩⟩
def ms (K:Int→Hp→Prop) (Rec3:(Int × Ptr × Bool)→Hp→Prop) (s2:Int × Ptr × Bool):Hp→Prop:=br s2.2.2 ( nn s2.2.1 fun q14=>ld (q14.1,q14.2 + 7) cV fun x16=>cl Tryz.prog jI [x16] eA fun r17=>Rec3 ((IntKind.i64.wrap (s2.1 + 1)),r17.1,r17.2)) ( K s2.1)
def sh_trap_Depth (a0:Value) (K:Int→Hp→Prop):Hp→Prop:=cl Tryz.prog jI [a0] eA fun r8=>Lp (ms K) (0,r8.1,r8.2)
theorem sim_trap_Depth (a0:Value) {K:Int→Hp→Prop} {h:Hp} (H:sh_trap_Depth a0 K h):Ct Tryz.prog wE #[a0] h fun v h'=>∃ r,v = eo r∧K r h':=aw [a0] Tryz.func224 c c c fun _=>M<|O c<|M<|O c<|aj<|M<|J c<|aa<|D H en_217 fun r8 _ H1=>J c<|p (ai c c)<|p (ai c c)<|p (aq c)<|O c<|ax<|bB (step:=ms K) (fun s2=>[(3,(.int .i64 s2.1)),(4,(pv s2.2.1)),(5,(.bool s2.2.2))]) (fun s2=>[]) H1 (.cons c<|.cons c<|.cons c<|.nil _) .slnil fun Rec3 s2 _ H4=>aj<|M<|J c<|ac<|av c H4 (fun k5 H6=>am<|aj<|ax<|ap<|J c<|p (bt c c)<|O c<|ap<|J c<|bC H6 fun q14 e7 H8=>p (aH<|aL c<|ao e7)<|p (ad fld_248_3 c)<|aa<|aT H8 sc_195 c (fun _=>c) c fun x16 H9=>aa<|D H9 en_217 fun r17 _ H10=>J c<|p (ai c c)<|p (ai c c)<|p (aq c)<|O c<|cF ((IntKind.i64.wrap (s2.1 + 1)),r17.1,r17.2) H10 (.cons c<|.cons c<|.cons c<|.nil _) .slnil) fun k5 H6=>bh<|M<|J c<|O c<|ag<|Y ⟨s2.1,c,H6⟩
def mP (a0:Ptr) (K:ByteArray→Hp→Prop):Hp→Prop:=br a0.isNone ( K (⟨#[]⟩:ByteArray)) ( nn a0 fun q7=>ld (q7.1,q7.2 + 0) (cI .i64) fun x9=>cl Tryz.prog sO [(.int .i64 x9)] dM fun r10=>hpv Tryz.prog (do eqGuard .add 9 (.const (.string (⟨#[116,114,97,112,32]⟩:ByteArray))) (.tmp 10) (.string (⟨#[116,114,97,112,32]⟩:ByteArray)) (.string r10); binOp .add 9 (.string (⟨#[116,114,97,112,32]⟩:ByteArray)) (.string r10):Sem Value) dM fun (v11:ByteArray)=>ld (q7.1,q7.2 + 7) cV fun x15=>hpv Tryz.prog (do eqGuard .neq 195 (.tmp 15) (.const Value.nilIface) x15 Value.nilIface; binOp .neq 195 x15 Value.nilIface:Sem Value) az fun (v16:Bool)=>br v16 ( ld (q7.1,q7.2 + 7) cV fun x21=>cln Tryz.prog (callMethod x21 "Error" #[]) dM fun (v22:ByteArray)=>hpv Tryz.prog (do eqGuard .add 9 (.const (.string (⟨#[58,32]⟩:ByteArray))) (.tmp 22) (.string (⟨#[58,32]⟩:ByteArray)) (.string v22); binOp .add 9 (.string (⟨#[58,32]⟩:ByteArray)) (.string v22):Sem Value) dM fun (v23:ByteArray)=>hpv Tryz.prog (do eqGuard .add 9 (.tmp 17) (.tmp 23) (.string v11) (.string v23); binOp .add 9 (.string v11) (.string v23):Sem Value) dM fun (v24:ByteArray)=>K v24) ( K v11))
theorem re (a0:Ptr) {K:ByteArray→Hp→Prop} {h:Hp} (H:mP a0 K h):Ct Tryz.prog iD #[(pv a0)] h fun v h'=>∃ r,v = dM r∧K r h':=aw [(pv a0)] Tryz.func249 c c c fun _=>M<|O c<|aj<|M<|J c<|p (ch Tryz.underlying246 c)<|ac<|av c H (fun k1 H2=>M<|O c<|ag<|Y ⟨(⟨#[]⟩:ByteArray),c,H2⟩) fun k1 H2=>am<|M<|J c<|bC H2 fun q7 e3 H4=>p (aH<|aL c<|ao e3)<|p (ad vq c)<|aa<|aT H4 nu c (fun _=>c) c fun x9 H5=>aa<|D H5 en_252 fun r10 _ H6=>aa<|aR H6 (gf c c) c fun v11 _ H7=>O c<|aj<|M<|J (aL c<|ao e3)<|p (aH c)<|p (ad fld_248_3 c)<|aa<|aT H7 sc_195 c (fun _=>c) c fun x15 H8=>aa<|aR H8 (gf c c) c fun v16 _ H9=>ac<|av c H9 (fun k10 H11=>ap<|J c<|J (aL c<|ao e3)<|p (aH c)<|p (ad fld_248_3 c)<|aa<|aT H11 sc_195 c (fun _=>c) c fun x21 H12=>aa<|fS H12 (fR (vs:=[]) c c) c fun v22 _ H13=>aa<|aR H13 (gf c c) c fun v23 _ H14=>aa<|aR H14 (gf c c) c fun v24 _ H15=>O c<|M<|J c<|O c<|ag<|Y ⟨v24,c,H15⟩) fun k10 H11=>am<|M<|J c<|O c<|ag<|Y ⟨v11,c,H11⟩
def sh_trap_Trap_Is (a0:Ptr) (a1:Value) (K:Bool→Hp→Prop):Hp→Prop:=hpv Tryz.prog (Instr.typeAssert a1 gg bc true) eA fun (v9:Ptr × Bool)=>br v9.2 ( br (!a0.isNone) ( br (!v9.1.isNone) ( nn a0 fun q23=>nn v9.1 fun q27=>ld (q23.1,q23.2 + 0) (cI .i64) fun x25=>ld (q27.1,q27.2 + 0) (cI .i64) fun x29=>K (x25 == x29)) ( K false)) ( K false)) ( K false)
theorem sim_trap_Trap_Is (a0:Ptr) (a1:Value) {K:Bool→Hp→Prop} {h:Hp} (H:sh_trap_Trap_Is a0 a1 K h):Ct Tryz.prog sM #[(pv a0),a1] h fun v h'=>∃ r,v = az r∧K r h':=aw [(pv a0),a1] Tryz.func250 c c c fun _=>M<|O c<|M<|J c<|aa<|aR H (fP c) c fun v9 _ H1=>J c<|p (ai c c)<|p (ai c c)<|p (aq c)<|O c<|aj<|bj (n:=21) [] ci c .slnil<|U 0 c (ae c)<|U 1 c (ae c)<|im H1 (fun k2 H3=>R 2 c (Z k2) (ve<|ae c)<|R 3 c (Z k2) (ve<|v_pneT Tryz.underlying246 c)<|U 4 c (aM c k2 c)<|U 5 c (ae c)<|im H3 (fun k4 H5=>R 6 c (Z k4) (ve<|ae c)<|R 7 c (Z k4) (ve<|v_pneT Tryz.underlying246 c)<|U 8 c (aM c k4 c)<|U 9 c (ae c)<|im H5 (fun k6 H7=>R 10 c (Z k6) (ve<|ae c)<|R 14 c (Z k6) (ve<|ae c)<|gI H7 fun q23 e8 H9=>R 11 c (Z k6) (ve<|aH<|aL c<|ao e8)<|R 12 c (Z k6) (ve<|ad vq c)<|gI H9 fun q27 e10 H11=>R 15 c (Z k6) (ve<|aH<|aL c<|ao e10)<|R 16 c (Z k6) (ve<|ad vq c)<|lS (i:=13) (fun _ _ _ _ hh=>hh) H11 c (by kernel_rfl) c c c (Z k6) nu c (fun _=>c) c fun x25 H12=>lS (i:=17) (fun _ _ _ _ hh=>hh) H12 c (by kernel_rfl) c c c (Z k6) nu c (fun _=>c) c fun x29 H13=>R 18 c (Z k6) (ve<|bK c c)<|U 19 c (aM c k6 c)<|U 20 c (aq c)<|aQ (by kernel_rfl)<|ag<|Y ⟨(x25 == x29),c,H13⟩) fun k6 H7=>F 10 c (aP k6)<|F 11 c (aP k6)<|F 12 c (aP k6)<|F 13 c (aP k6)<|F 14 c (aP k6)<|F 15 c (aP k6)<|F 16 c (aP k6)<|F 17 c (aP k6)<|F 18 c (aP k6)<|U 19 c (an c k6 c)<|U 20 c (aq c)<|aQ (by kernel_rfl)<|ag<|Y ⟨false,c,H7⟩) fun k4 H5=>F 6 c (aP k4)<|F 7 c (aP k4)<|U 8 c (an c k4 c)<|U 9 c (ae c)<|F 10 c c<|F 11 c c<|F 12 c c<|F 13 c c<|F 14 c c<|F 15 c c<|F 16 c c<|F 17 c c<|F 18 c c<|U 19 c (an c c c)<|U 20 c (aq c)<|aQ (by kernel_rfl)<|ag<|Y ⟨false,c,H5⟩) fun k2 H3=>F 2 c (aP k2)<|F 3 c (aP k2)<|U 4 c (an c k2 c)<|U 5 c (ae c)<|F 6 c c<|F 7 c c<|U 8 c (an c c c)<|U 9 c (ae c)<|F 10 c c<|F 11 c c<|F 12 c c<|F 13 c c<|F 14 c c<|F 15 c c<|F 16 c c<|F 17 c c<|F 18 c c<|U 19 c (an c c c)<|U 20 c (aq c)<|aQ (by kernel_rfl)<|ag<|Y ⟨false,c,H3⟩
def rf (a0:Ptr) (K:Value→Hp→Prop):Hp→Prop:=br a0.isNone ( K Value.nilIface) ( nn a0 fun q6=>ld (q6.1,q6.2 + 7) cV fun x8=>K x8)
theorem sim_trap_Trap_Unwrap (a0:Ptr) {K:Value→Hp→Prop} {h:Hp} (H:rf a0 K h):Ct Tryz.prog mR #[(pv a0)] h fun v h'=>∃ r,v = ii r∧K r h':=aw [(pv a0)] Tryz.func251 c c c fun _=>M<|O c<|aj<|M<|J c<|p (ch Tryz.underlying246 c)<|ac<|av c H (fun k1 H2=>M<|O c<|ag<|Y ⟨Value.nilIface,c,H2⟩) fun k1 H2=>am<|M<|J c<|bC H2 fun q6 e3 H4=>p (aH<|aL c<|ao e3)<|p (ad fld_248_3 c)<|aa<|aT H4 sc_195 c (fun _=>c) c fun x8 H5=>O c<|ag<|Y ⟨x8,c,H5⟩
end Go.Proofs.YtmggcfijlpldpaaGreatDoor
namespace Go.Proofs.YtmggcfijlpldpaaGreatDoor
open Go Mb
variable {ET:Nat} {EF:Nat × Nat}
abbrev dn (b:Nat):Value:=.iface bc (.pointer (some ⟨b,0,none⟩))
theorem g0:Tryz.prog.globals.size = 4:=by kernel_rfl
theorem g1:typeHandle Tryz.prog bc = pv (some (4,bc)):=by kernel_rfl
theorem g2:(Tryz.prog.globals[0]?).map (·.type) = some 243:=by kernel_rfl
theorem oneErr:((List.range 350).filter fun t=>Tryz.prog.rowNamed t [101,114,114,111,114]) = [195]:=by kernel_rfl
theorem g4:Tryz.prog.types.size = 350:=by kernel_rfl
abbrev rtV (T:Nat):Value:=.iface rd (.agg #[pv (some (4,T))])
abbrev vl (T c f:Nat):aG:=⟨some (4,T),some (c,0),f⟩
abbrev vlV (T c f:Nat):Value:=.agg (aG.C (vl T c f)).toArray
section
variable (b:Nat) (K:Next→Hp→Prop) (h:Hp)
theorem x7:hp Tryz.prog (callFunc fU #[dn b]) K h = K (.value (rtV bc)) h:=by kernel_rfl
theorem x8:hp Tryz.prog (callFunc cL #[.iface bw (.pointer (some ⟨b,0,none⟩))]) K h = (true = true∧∀ e,h e = none→K (.value (vlV bw e 150)) (eH h e (.cells #[pv (some (b,0))] bw (0,0)))):=by kernel_rfl
theorem x8':hp Tryz.prog (callFunc cL #[dn b]) K h = (true = true∧∀ e,h e = none→K (.value (vlV bc e 150)) (eH h e (.cells #[pv (some (b,0))] bc (0,0)))):=by kernel_rfl
theorem x10:hp Tryz.prog (callMethod (rtV bw) "Kind" #[]) K h = K (.value (.int .u8 22)) h:=by kernel_rfl
theorem x11:hp Tryz.prog (callMethod (rtV bw) "Elem" #[]) K h = K (.value (rtV bc)) h:=by kernel_rfl
theorem x12:hp Tryz.prog (callMethod (rtV bc) "Kind" #[]) K h = K (.value (.int .u8 22)) h:=by kernel_rfl
theorem x13:hp Tryz.prog (callMethod (rtV bc) "Comparable" #[]) K h = K (.value (.bool true)) h:=by kernel_rfl
theorem x14:hp Tryz.prog (callMethod (rtV bc) "AssignableTo" #[rtV bc]) K h = K (.value (.bool true)) h:=by kernel_rfl
theorem x15 (c:Nat):hp Tryz.prog (callFunc ij #[vlV bw c 150]) K h = K (.value (rtV bw)) h:=by kernel_rfl
theorem x16 (c:Nat):hp Tryz.prog (callFunc eM #[vlV bw c 150]) K h =
  hp Tryz.prog (do let r ← Extern.ReflectliteValue.isNil bw ⟨c,0,none⟩ 150 22; pure (.value r)) K h:=by kernel_rfl
theorem x17:hp Tryz.prog (callMethod (rtV bc) "Implements" #[rtV gg]) K h = K (.value (.bool true)) h:=by kernel_rfl
theorem x18 (c:Nat):hp Tryz.prog (callFunc eV #[vlV bw c 150]) K h =
  hp Tryz.prog (do let r ← Extern.ReflectliteValue.elem bw ⟨c,0,none⟩ 150 22; pure (.value r)) K h:=by kernel_rfl
theorem x19 (c d:Nat):hp Tryz.prog (callFunc fe #[vlV bc c 406,vlV bc d 150]) K h =
  hp Tryz.prog (do let r ← (do let v ← loadVar bc ⟨d,0,none⟩; storeVar bc ⟨c,0,none⟩ v; pure (Value.tuple #[])); pure (.value r)) K h:=by kernel_rfl
theorem y1 (c:Nat) (K:Value→Hp→Prop):hp Tryz.prog (loadVar bw ⟨c,0,none⟩) K h = ∃ v,kM h ⟨c,0,none⟩ = some v∧K v h:=by kernel_rfl
theorem y2 (c:Nat) (K:Value→Hp→Prop):hp Tryz.prog (loadVar bc ⟨c,0,none⟩) K h = ∃ v,kM h ⟨c,0,none⟩ = some v∧K v h:=by kernel_rfl
theorem y3 (b:Nat) (K:Value→Hp→Prop):hp Tryz.prog (Extern.ReflectliteValue.mk bc ⟨b,0,none⟩ Extern.ReflectliteValue.flagAddr) K h = K (vlV bc b 406) h:=by kernel_rfl
theorem y4 (K:Option TypeId→Hp→Prop):hp Tryz.prog (Extern.Rtype.elem? bw) K h = K (some bc) h:=by kernel_rfl
theorem y5 (b c:Nat) (K:Unit→Hp→Prop):hp Tryz.prog (storeVar bc ⟨c,0,none⟩ (.pointer (some ⟨b,0,none⟩))) K h = hp Tryz.prog (storeCells ⟨c,0,none⟩ [.pointer (some ⟨b,0,none⟩)]) K h:=by kernel_rfl
theorem y6 (K:Value→Hp→Prop) {a b n m:Nat}:hp Tryz.prog (do eqGuard .eql 195 (.tmp n) (.tmp m) (dn a) (dn b); binOp .eql 195 (dn a) (dn b):Sem Value) K h = hp Tryz.prog (do let r ← sameAddr ⟨a,0,none⟩ ⟨b,0,none⟩; pure (.bool r)) K h:=by kernel_rfl
theorem x25 (K:Bool→Hp→Prop) {a b:Nat} {ca cb:List Value} {Ta Tb:Nat} (ha:h a = some (.cells ca.toArray Ta (0,0))) (hb:h b = some (.cells cb.toArray Tb (0,0))) (H:K (a == b) h):hp Tryz.prog (sameAddr ⟨a,0,none⟩ ⟨b,0,none⟩) K h:=by
  unfold sameAddr
  rcases Decidable.em (a = b) with e | e
  · subst e
    rw [if_pos (by simp)]
    have H':K true h:=by simpa using H
    simpa [hp_pure] using H'
  · rw [if_neg (by simpa using e)]
    have fa:∀ (K:Bool→Hp→Prop) (o:Nat),hp Tryz.prog (frozen ⟨a,o,none⟩) K h↔K false h:=fun K o =>
      ⟨fun ⟨o',h1,h2⟩=>by rw [ha] at h1; cases h1; simpa [hp,tZ] using h2,fun h2=>⟨_,ha,by simpa [hp,tZ] using h2⟩⟩
    have fb:∀ (K:Bool→Hp→Prop) (o:Nat),hp Tryz.prog (frozen ⟨b,o,none⟩) K h↔K false h:=fun K o =>
      ⟨fun ⟨o',h1,h2⟩=>by rw [hb] at h1; cases h1; simpa [hp,tZ] using h2,fun h2=>⟨_,hb,by simpa [hp,tZ] using h2⟩⟩
    have sa:∀ (K:Option (TypeId × Nat)→Hp→Prop),hp Tryz.prog (shape a) K h↔K (some (Ta,ca.length)) h:=fun K =>
      ⟨fun ⟨o',h1,h2⟩=>by rw [ha] at h1; cases h1; simpa [hp,oshape] using h2,fun h2=>⟨_,ha,by simpa [hp,oshape] using h2⟩⟩
    have sb:∀ (K:Option (TypeId × Nat)→Hp→Prop),hp Tryz.prog (shape b) K h↔K (some (Tb,cb.length)) h:=fun K =>
      ⟨fun ⟨o',h1,h2⟩=>by rw [hb] at h1; cases h1; simpa [hp,oshape] using h2,fun h2=>⟨_,hb,by simpa [hp,oshape] using h2⟩⟩
    have eb:(a == b) = false:=by simpa using e
    rw [eb] at H
    simp [cJ,fa,fb,sa,sb,noView,viewAt,mayBeOne,stringish,hp_pure,H]
end
section
variable {P:Program} {τ:Type} {enc:τ→Value} {K:τ→Hp→Prop} {h:Hp}
theorem eu {m:Sem Value} (r:τ) (e:∀ (K:Value→Hp→Prop) h,hp P m K h = K (enc r) h) (k:K r h):hpv P m enc K h:=⟨by rw [e]; exact ⟨r,rfl,k⟩⟩
theorem te {m:Sem Next} (r:τ) (e:∀ (K:Next→Hp→Prop) h,hp P m K h = K (.value (enc r)) h) (k:K r h):cln P m enc K h:=⟨by rw [e]; exact .inl ⟨r,rfl,k⟩⟩
theorem cln_en {m:Sem Next} {f:FuncId} {vs:List Value} (e:∀ (K:Next→Hp→Prop) h,hp P m K h = K (.enter f vs.toArray) h) (k:cl P f vs enc K h):cln P m enc K h:=⟨by rw [e]; exact .inr ⟨f,_,rfl,k⟩⟩
end
abbrev etB (ET:Nat) (EF:Nat × Nat):As:=obj 0 (.cells #[rtV gg] ET EF)
abbrev trB (b:Nat) (t:bU):As:=blk b ni (bU.C t)
theorem en_0 (b n:Nat) (K:Value→Hp→Prop) (h:Hp):hp Tryz.prog (do eqGuard .eql 195 (.tmp n) (.const Value.nilIface) (dn b) Value.nilIface; binOp .eql 195 (dn b) Value.nilIface:Sem Value) K h = K (.bool false) h:=by kernel_rfl
theorem en_00 (n:Nat) (K:Value→Hp→Prop) (h:Hp):hp Tryz.prog (do eqGuard .eql 195 (.tmp n) (.const Value.nilIface) Value.nilIface Value.nilIface; binOp .eql 195 Value.nilIface Value.nilIface:Sem Value) K h = K (.bool true) h:=by kernel_rfl
theorem en_1 (b n:Nat) (K:Value→Hp→Prop) (h:Hp):hp Tryz.prog (do eqGuard .eql 20 (.tmp n) (.const Value.nilIface) (.iface bw (.pointer (some ⟨b,0,none⟩))) Value.nilIface; binOp .eql 20 (.iface bw (.pointer (some ⟨b,0,none⟩))) Value.nilIface:Sem Value) K h = K (.bool false) h:=by kernel_rfl
theorem sp_As_nil (v:Value):Sp Tryz.prog uf [Value.nilIface,v] az [] (fun r=>pa_ (r = false) []):=by
  intro h st
  refine sim_errors_As _ _ ?_
  unfold wx
  exact eu true (en_00 _) (dc rfl (aU rfl st))
section
variable {h:Hp} {b c d:Nat}
theorem c22 {K:Bool→Hp→Prop} (e:kM h ⟨c,0,none⟩ = some (.pointer (some ⟨b,0,none⟩))) (H:K false h):cln Tryz.prog (callFunc eM #[vlV bw c 150]) az K h:=by
  constructor
  rw [x16,cJ]
  unfold Extern.ReflectliteValue.isNil
  rw [if_neg (by decide)]
  rw [cJ,y1]; exact ⟨_,e,.inl ⟨false,rfl,H⟩⟩
theorem c23 {K:aG→Hp→Prop} (e:kM h ⟨c,0,none⟩ = some (.pointer (some ⟨b,0,none⟩))) (H:K (vl bc b 406) h):cln Tryz.prog (callFunc eV #[vlV bw c 150]) ft K h:=by
  constructor
  rw [x18,cJ]
  unfold Extern.ReflectliteValue.elem
  rw [if_neg (by decide),cJ,y1]
  refine ⟨_,e,?_⟩
  rw [cJ,y4]
  show hp _ (Extern.ReflectliteValue.mk _ _ _) _ h
  rw [y3]; exact .inl ⟨_,rfl,H⟩
theorem c24 {K:Unit→Hp→Prop} (e:kM h ⟨d,0,none⟩ = some (.pointer (some ⟨b,0,none⟩))) (H:hp Tryz.prog (storeCells ⟨c,0,none⟩ [.pointer (some ⟨b,0,none⟩)]) (fun _=>K ()) h):cln Tryz.prog (callFunc fe #[vlV bc c 406,vlV bc d 150]) R_ K h:=by
  constructor
  rw [x19,cJ,cJ,y2]; refine ⟨_,e,?_⟩
  rw [cJ,y5]; exact hp_mono _ (fun _ _ k=>.inl ⟨(),rfl,k⟩) _ H
theorem c8 {K:aG→Hp→Prop} (H:∀ e,h e = none→K (vl bw e 150) (eH h e (.cells #[pv (some (b,0))] bw (0,0)))):cln Tryz.prog (callFunc cL #[.iface bw (.pointer (some ⟨b,0,none⟩))]) ft K h:=by
  constructor
  rw [x8]
  exact ⟨rfl,fun e he=>.inl ⟨_,rfl,H e he⟩⟩
theorem c8' {K:aG→Hp→Prop} (H:∀ e,h e = none→K (vl bc e 150) (eH h e (.cells #[pv (some (b,0))] bc (0,0)))):cln Tryz.prog (callFunc cL #[dn b]) ft K h:=by
  constructor
  rw [x8']
  exact ⟨rfl,fun e he=>.inl ⟨_,rfl,H e he⟩⟩
end
theorem blk_cell {l:List As} {h:Hp} {i b:Nat} {T:TypeId} {c:List Value} {v:Value} (hi:l[i]? = some (blk b T c)) (hv:c[0]? = some v) (s:aE l h):kM h ⟨b,0,none⟩ = some v:=by
  obtain ⟨g1,a1,sub1⟩:=dR hi s
  have:=sub1 _ _ a1
  unfold kM
  rw [this]
  simpa using hv
theorem sp_as (b c d:Nat) (p:Ptr):Sp Tryz.prog ue [dn b,.iface bw (.pointer (some ⟨c,0,none⟩)),vlV bw d 150,rtV bc] az
    [blk c bc [pv p],blk d bw [pv (some (c,0))]] (fun r=>pa_ (r = true) [blk c bc [pv (some (b,0))]]):=by
  intro h st
  refine sim_errors_as _ _ _ _ ?_
  unfold sh_errors_as
  refine ⟨fun s h=>s = dn b∧aE [blk c bc [pv p],blk d bw [pv (some (c,0))]] h,fun _ _=>0,⟨rfl,st⟩,?_⟩
  rintro _ h1 ⟨rfl,s1⟩
  unfold wV
  refine te (rtV bc) (fun K h=>x7 b K h) ?_
  refine te true (fun K h=>x14 K h) (dc rfl ?_)
  refine c23 (blk_cell (i:=1) rfl rfl s1) ?_
  refine c8' fun e he=>?_
  have s2:aE (blk e bc [pv (some (b,0))]::_) _:=new_s (o:=.cells #[pv (some (b,0))] bc (0,0)) s1 he
  refine c24 (blk_cell (i:=0) (T:=bc) (c:=[pv (some (b,0))]) rfl rfl s2) ?_
  obtain ⟨g2,a2,sub2⟩:=dR (i:=1) (A:=blk c bc [pv p]) rfl s2
  refine hp_storeCells _ 0 0 [pv p] _ (sub2 _ _ a2) (by simp) rfl ?_
  have s3:aE (_::blk c bc [pv (some (b,0))]::_) _:=obj_set (o':=.cells #[pv (some (b,0))] bc (0,0)) (i:=1) s2 rfl
  exact aU rfl (bX (l:=[_,_]) (ba [0,1] s3 rfl))
theorem sp_As (b c:Nat) (p:Ptr):Sp Tryz.prog uf [dn b,.iface bw (.pointer (some ⟨c,0,none⟩))] az
    [(etB ET EF),blk c bc [pv p]] (fun r=>pa_ (r = true) [(etB ET EF),blk c bc [pv (some (b,0))]]):=by
  intro h st
  refine sim_errors_As _ _ ?_
  unfold wx
  refine eu false (en_0 b _) (cZ rfl ?_)
  refine eu false (en_1 c _) (cZ rfl ?_)
  unfold wY
  refine c8 fun e he=>?_
  have s2:aE (blk e bw [pv (some (c,0))]::_) _:=new_s (o:=.cells #[pv (some (c,0))] bw (0,0)) st he
  refine te (rtV bw) (fun K h=>x15 K h e) ?_
  refine te 22 (fun K h=>x10 K h) (dc rfl ?_)
  refine c22 (blk_cell (i:=0) (T:=bw) (c:=[pv (some (c,0))]) rfl rfl s2) (cZ rfl ?_)
  unfold wX
  refine te (rtV bc) (fun K h=>x11 K h) ?_
  refine te 22 (fun K h=>x12 K h) (dc rfl ?_)
  obtain ⟨g3,a3,sub3⟩:=dR (i:=1) (A:=etB ET EF) rfl s2
  refine ⟨rtV gg,⟨_,_,_,sub3 _ _ a3,fun i v hv=>?_⟩,?_⟩
  · rcases i with _ | i <;> first | exact hv | simp [cV] at hv
  refine te true (fun K h=>x17 K h) (cZ rfl ?_)
  unfold rU
  refine cG [2,0,1] (rest:=[(etB ET EF)]) (sp_as b c e p) s2 rfl fun r h' s3=>?_
  obtain ⟨rfl,s4⟩:=bn.1 s3
  exact aU rfl (ba [1,0] s4 rfl)
abbrev firstOf (b:Nat):Ptr × Bool:=(some (b,0),true)
theorem sp_First (b:Nat):Sp Tryz.prog jI [dn b] eA [(etB ET EF)] (fun r=>pa_ (r = firstOf b) [(etB ET EF)]):=by
  intro h st
  refine sim_trap_First _ ?_
  unfold uz
  refine oR st fun c h1 s1=>?_
  refine eu (.iface bw (.pointer (some ⟨c,0,none⟩))) (fun K h=>by kernel_rfl) ?_
  refine cG [1,0] (rest:=[]) (sp_As b c none) s1 rfl fun r h' s2=>?_
  obtain ⟨rfl,s3⟩:=bn.1 s2
  refine dc rfl ?_
  refine bi (some (b,0)) s3 (i:=1) rfl rfl rfl ?_
  unfold mq
  refine cZ rfl ?_
  refine bi (some (b,0)) s3 (i:=1) rfl rfl rfl ?_
  exact aU rfl (bX (l:=[_]) (ba [1] s3 rfl))
theorem sp_First_nil:Sp Tryz.prog jI [Value.nilIface] eA [] (fun r=>pa_ (r = (none,false)) []):=by
  intro h st
  refine sim_trap_First _ ?_
  unfold uz
  refine oR st fun c h1 s1=>?_
  refine eu (.iface bw (.pointer (some ⟨c,0,none⟩))) (fun K h=>by kernel_rfl) ?_
  refine tt (sp_As_nil _) s1 fun r h' hr s2=>?_
  subst hr
  refine cZ rfl ?_
  unfold mq
  exact dc rfl (aU rfl trivial)
theorem sp_Of (n:Int) (hn:n ≠ 0):Sp Tryz.prog kg [.int .i64 n] ii [] (fun r=>ex fun b=>pa_ (r = dn b) [trB b ⟨n,-1,⟨0,0,0,0,0⟩,.nilIface⟩]):=by
  intro h st
  refine sim_trap_Of _ ?_
  unfold sh_trap_Of
  refine cZ (by simpa using hn) ?_
  refine oR st fun b h1 s1=>?_
  refine eu (dn b) (fun K h=>by kernel_rfl) ?_
  exact ⟨b,aU rfl s1⟩
theorem sp_Of0:Sp Tryz.prog kg [.int .i64 0] ii [] (fun r=>pa_ (r = Value.nilIface) []):=by
  intro h st
  refine sim_trap_Of _ ?_
  unfold sh_trap_Of
  exact dc rfl (aU rfl st)
theorem sp_Code (b:Nat) (t:bU):Sp Tryz.prog uc [dn b] aZ [(etB ET EF),trB b t] (fun r=>pa_ (r = t.fCode) [(etB ET EF),trB b t]):=by
  intro h st
  refine sim_trap_Code _ ?_
  unfold sh_trap_Code
  refine eu false (en_0 b _) (cZ rfl ?_)
  refine bH (i:=0) (sp_First b) rfl st fun r h' hr s2=>?_
  subst hr
  refine dc rfl (cu ?_)
  refine bi t.fCode s2 (i:=1) rfl rfl rfl ?_
  exact aU rfl s2
theorem sp_In (env:Int) (c:ah) (b:Nat) (t:bU):Sp Tryz.prog n_trap_In [.int .i64 env,.agg (ah.C c).toArray,dn b] ii [(etB ET EF),trB b t]
    (fun r=>ex fun e=>pa_ (r = dn e) [trB e ⟨t.fCode,env,c,dn b⟩,(etB ET EF),trB b t]):=by
  intro h st
  refine sim_trap_In _ _ _ ?_
  unfold sh_trap_In
  refine eu false (en_0 b _) (cZ rfl ?_)
  refine cG [] (rest:=[]) (sp_Code b t) st (List.append_nil _).symm fun r h' s2=>?_
  obtain ⟨rfl,s3⟩:=bn.1 s2
  refine eu ⟨t.fCode,env,c,dn b⟩ (fun K h=>by kernel_rfl) ?_
  refine oR s3 fun e h1 s4=>?_
  refine eu (dn e) (fun K h=>by kernel_rfl) ?_
  exact ⟨e,aU rfl s4⟩
theorem sp_Depth2 (b e:Nat) (t u:bU) (ht:t.fErr = dn e) (hu:u.fErr = Value.nilIface):Sp Tryz.prog wE [dn b] eo [(etB ET EF),trB b t,trB e u] (fun r=>pa_ (r = 2) [(etB ET EF),trB b t,trB e u]):=by
  intro h st
  refine sim_trap_Depth _ ?_
  unfold sh_trap_Depth
  refine bH (i:=0) (sp_First b) rfl st fun r h' hr s2=>?_
  subst hr
  refine ⟨fun s h=>(s = (0,some (b,0),true)∨s = (1,some (e,0),true)∨s = (2,none,false))∧aE [(etB ET EF),trB b t,trB e u] h,fun s _=>3 - s.1.toNat,⟨.inl rfl,s2⟩,?_⟩
  rintro s h1 ⟨rfl | rfl | rfl,s3⟩
  · unfold ms
    refine dc rfl (cu ?_)
    refine bi t.fErr s3 (i:=1) rfl rfl rfl ?_
    rw [ht]
    refine bH (i:=0) (sp_First e) rfl s3 fun r h' hr s4=>?_
    subst hr
    exact ⟨⟨.inr (.inl rfl),s4⟩,Nat.le_of_ble_eq_true rfl⟩
  · unfold ms
    refine dc rfl (cu ?_)
    refine bi u.fErr s3 (i:=2) rfl rfl rfl ?_
    rw [hu]
    refine tt sp_First_nil s3 fun r h' hr s4=>?_
    subst hr
    exact ⟨⟨.inr (.inr rfl),s4⟩,Nat.le_of_ble_eq_true rfl⟩
  · unfold ms
    exact cZ rfl (aU rfl s3)
end Go.Proofs.YtmggcfijlpldpaaGreatDoor
namespace Go.Proofs.YtmggcfijlpldpaaGreatDoor
open Go Mb
set_option linter.unusedVariables false
def sh_strconv_Itoa (a0:Int) (K:ByteArray→Hp→Prop):Hp→Prop:=cl Tryz.prog jn [(.int .i64 a0)] dM fun r4=>K r4
theorem sim_strconv_Itoa (a0:Int) {K:ByteArray→Hp→Prop} {h:Hp} (H:sh_strconv_Itoa a0 K h):Ct Tryz.prog sO #[(.int .i64 a0)] h fun v h'=>∃ r,v = dM r∧K r h':=aw [(.int .i64 a0)] Tryz.func252 c c c fun _=>M<|O c<|M<|J c<|aa<|D H en_253 fun r4 _ H1=>O c<|ag<|Y ⟨r4,c,H1⟩
end Go.Proofs.YtmggcfijlpldpaaGreatDoor
namespace Go.Proofs.YtmggcfijlpldpaaGreatDoor
open Go Mb
set_option linter.unusedVariables false
def lV (a0:Int) (K:ByteArray→Hp→Prop):Hp→Prop:=br (decide (a0 < 10)) ( hpv Tryz.prog (Instr.sliceAt uI (.string str_73df774b) (some (.int .i64 a0)) (some (.int .i64 (IntKind.i64.wrap (a0 + 1)))) none) dM fun (v8:ByteArray)=>K v8) ( hpv Tryz.prog (Instr.sliceAt uI (.string str_e9752c08) (some (.int .i64 (IntKind.i64.wrap (a0 * 2)))) (some (.int .i64 (IntKind.i64.wrap ((IntKind.i64.wrap (a0 * 2)) + 2)))) none) dM fun (v14:ByteArray)=>K v14)
theorem sw (a0:Int) {K:ByteArray→Hp→Prop} {h:Hp} (H:lV a0 K h):Ct Tryz.prog iT #[(.int .i64 a0)] h fun v h'=>∃ r,v = dM r∧K r h':=aw [(.int .i64 a0)] Tryz.func255 c c c fun _=>M<|O c<|aj<|M<|J c<|p (cm c c)<|ac<|av c H (fun k1 H2=>M<|J c<|J c<|p (bt c c)<|aa<|aR H2 (eT c c c c c) c fun v8 _ H3=>O c<|ag<|Y ⟨v8,c,H3⟩) fun k1 H2=>am<|M<|J c<|p (v_mul c c)<|J c<|p (v_mul c c)<|p (bt c c)<|aa<|aR H2 (eT c c c c c) c fun v14 _ H4=>O c<|ag<|Y ⟨v14,c,H4⟩
def fW (a0:Int) (K:ByteArray→Hp→Prop) (b5:Nat) (s9:Int):Hp→Prop:=cl Tryz.prog qS [(.int .u64 s9)] eo fun r27=>hpv Tryz.prog (Instr.sliceAt vS (.pointer (some ⟨b5,0,none⟩)) (some (.int .i64 1)) (some (.int .i64 (IntKind.i64.wrap (1 + r27)))) none) R_Suint8 fun (v30:Sl)=>cl Tryz.prog oS [(sv v30),(.int .u64 s9)] R_ fun (_:Unit)=>br (decide (a0 < 0)) ( st (b5,0) [.int .u8 45]<|hpv Tryz.prog (Instr.sliceAt vS (.pointer (some ⟨b5,0,none⟩)) none (some (.int .i64 (IntKind.i64.wrap (1 + r27)))) none) R_Suint8 fun (v38:Sl)=>hpv Tryz.prog (convert 328 9 (sv v38)) dM fun (v39:ByteArray)=>K v39) ( hpv Tryz.prog (Instr.sliceAt vS (.pointer (some ⟨b5,0,none⟩)) (some (.int .i64 1)) (some (.int .i64 (IntKind.i64.wrap (1 + r27)))) none) R_Suint8 fun (v42:Sl)=>hpv Tryz.prog (convert 328 9 (sv v42)) dM fun (v43:ByteArray)=>K v43)
def jC (a0:Int) (a1:Int) (K:ByteArray→Hp→Prop):Hp→Prop:=br (a1 == 10) ( br ((decide (0 ≤ a0)) && (decide (a0 < 100))) ( cl Tryz.prog iT [(.int .i64 a0)] dM fun r19=>K r19) ( nw vS [.int .u8 0,.int .u8 0,.int .u8 0,.int .u8 0,.int .u8 0,.int .u8 0,.int .u8 0,.int .u8 0,.int .u8 0,.int .u8 0,.int .u8 0,.int .u8 0,.int .u8 0,.int .u8 0,.int .u8 0,.int .u8 0,.int .u8 0,.int .u8 0,.int .u8 0,.int .u8 0,.int .u8 0,.int .u8 0,.int .u8 0,.int .u8 0] fun b5=>br (decide (a0 < 0)) ( fW a0 K b5 (IntKind.u64.wrap (0 - (IntKind.u64.wrap a0)))) ( fW a0 K b5 (IntKind.u64.wrap a0)))) ( cl Tryz.prog qz [(sv (⟨none,0,0,none⟩:Sl)),(.int .u64 (IntKind.u64.wrap a0)),(.int .i64 a1),(.bool (decide (a0 < 0))),(.bool false)] R_Suint8_string fun r50=>K r50.2)
theorem pH (a0:Int) (a1:Int) {K:ByteArray→Hp→Prop} {h:Hp} (H:jC a0 a1 K h):Ct Tryz.prog gu #[(.int .i64 a0),(.int .i64 a1)] h fun v h'=>∃ r,v = dM r∧K r h':=aw [(.int .i64 a0),(.int .i64 a1)] Tryz.func254 c c c fun _=>M<|O c<|aj<|M<|J c<|p (bK c c)<|ac<|av c H (fun k1 H2=>aj<|M<|J c<|p (v_le c c)<|J c<|V c c (ay _) (fun g3=>wv<|ae c)<|V c c (ay _) (fun g4=>wv<|cm (aB c g4) c)<|p (bM c c)<|ac<|av c H2 (fun k5 H6=>M<|J c<|aa<|D H6 en_255 fun r19 _ H7=>O c<|ag<|Y ⟨r19,c,H7⟩) fun k5 H6=>am<|M<|aa<|to_alloc zero_325 c c H6 fun b5 _ H8=>ac<|M<|J c<|p (dP ⟨_,Tryz.underlying2⟩ Tryz.underlying22 c)<|O c<|dX (fW a0 K b5) (fun s9=>[(0,(.int .i64 a0)),(5,(.pointer (some ⟨b5,0,none⟩))),(6,(.int .u64 s9))]) (fun s9=>[]) (M<|J c<|p (cm c c)<|ac<|av c H8 (fun k21 H22=>ap<|J c<|p (v_neg c)<|O c<|cq (IntKind.u64.wrap (0 - (IntKind.u64.wrap a0))) H22 (.cons c<|.cons c<|.cons c<|.nil _) .slnil) fun k21 H22=>am<|cq (IntKind.u64.wrap a0) H22 (.cons c<|.cons c<|.cons c<|.nil _) .slnil) fun s9 _ H10=>M<|J c<|aa<|D H10 en_256 fun r27 _ H11=>O c<|M<|J c<|p (bt c c)<|aa<|aR H11 (eT c c c c c) c fun v30 _ H12=>J c<|aa<|D H12 en_257 fun r32 _ H13=>ac<|aj<|M<|J c<|p (cm c c)<|ac<|av c H13 (fun k14 H15=>M<|p (bu arr_325 c c (by decide))<|aa<|dq inf_5 c c c c c H15 fun _ H16=>ac<|M<|J c<|p (bt c c)<|aa<|aR H16 (eT c c c c c) c fun v38 _ H17=>aa<|aR H17 (x_convert c) c fun v39 _ H18=>O c<|ag<|Y ⟨v39,c,H18⟩) fun k14 H15=>am<|M<|J c<|p (bt c c)<|aa<|aR H15 (eT c c c c c) c fun v42 _ H19=>aa<|aR H19 (x_convert c) c fun v43 _ H20=>O c<|ag<|Y ⟨v43,c,H20⟩) fun k1 H2=>am<|M<|J c<|p (dP ⟨_,Tryz.underlying2⟩ Tryz.underlying22 c)<|J c<|J c<|p (cm c c)<|aa<|D H2 en_258 fun r50 _ H23=>J c<|p (ai c c)<|p (ai c c)<|p (aq c)<|O c<|M<|J c<|O c<|ag<|Y ⟨r50.2,c,H23⟩
def mz (a0:Int) (K:ByteArray→Hp→Prop):Hp→Prop:=cl Tryz.prog gu [(.int .i64 a0),(.int .i64 10)] dM fun r4=>K r4
theorem tq (a0:Int) {K:ByteArray→Hp→Prop} {h:Hp} (H:mz a0 K h):Ct Tryz.prog jn #[(.int .i64 a0)] h fun v h'=>∃ r,v = dM r∧K r h':=aw [(.int .i64 a0)] Tryz.func253 c c c fun _=>M<|O c<|M<|J c<|aa<|D H en_254 fun r4 _ H1=>O c<|ag<|Y ⟨r4,c,H1⟩
end Go.Proofs.YtmggcfijlpldpaaGreatDoor
namespace Go.Proofs.YtmggcfijlpldpaaGreatDoor
open Go Mb
set_option linter.unusedVariables false
def pb (K:Bool→Hp→Prop):Hp→Prop:=cl Tryz.prog kg [(.int .i64 3)] ii fun r5=>cl Tryz.prog n_trap_In [(.int .i64 2),(.agg (ah.C (⟨1,2,0,0,0⟩:ah)).toArray),r5] ii fun r6=>cl Tryz.prog jI [r6] eA fun r9=>hpv Tryz.prog (do eqGuard .eql 195 (.tmp 12) (.const Value.nilIface) r6 Value.nilIface; binOp .eql 195 r6 Value.nilIface:Sem Value) az fun (v13:Bool)=>br (v13 || r9.1.isNone) ( K false) ( br r9.2 ( nn r9.1 fun q21=>ld (q21.1,q21.2 + 1) (cI .i64) fun x23=>br (x23 == 2) ( ld (q21.1,q21.2 + 2) ah.C fun x30=>br (ah.eqb x30 (⟨1,2,0,0,0⟩:ah)) ( ld (q21.1,q21.2 + 0) (cI .i64) fun x38=>br (x38 == 3) ( cl Tryz.prog uc [r6] aZ fun r43=>br (r43 == 3) ( cl Tryz.prog wE [r6] eo fun r48=>br (r48 == 2) ( cl Tryz.prog kg [(.int .i64 3)] ii fun r53=>cl Tryz.prog nz [r6,r53] az fun r54=>br r54 ( cl Tryz.prog kg [(.int .i64 4)] ii fun r58=>cl Tryz.prog nz [r6,r58] az fun r59=>br (!r59) ( cln Tryz.prog (callMethod r6 "Error" #[]) dM fun (v64:ByteArray)=>hpv Tryz.prog (do eqGuard .eql 9 (.tmp 64) (.const (.string nS)) (.string v64) (.string nS); binOp .eql 9 (.string v64) (.string nS):Sem Value) az fun (v65:Bool)=>br v65 ( cl Tryz.prog kg [(.int .i64 0)] ii fun r68=>hpv Tryz.prog (do eqGuard .eql 195 (.tmp 68) (.const Value.nilIface) r68 Value.nilIface; binOp .eql 195 r68 Value.nilIface:Sem Value) az fun (v69:Bool)=>K v69) ( K false)) ( K false)) ( K false)) ( K false)) ( K false)) ( K false)) ( K false)) ( K false)) ( K false))
theorem wj {K:Bool→Hp→Prop} {h:Hp} (H:pb K h):Ct Tryz.prog lf #[] h fun v h'=>∃ r,v = az r∧K r h':=aw [] Tryz.func218 c c c fun _=>M<|O c<|M<|p (aX c<|jP 1 2)<|aa<|D H xc fun r5 _ H1=>aa<|D H1 en_177 fun r6 _ H2=>O c<|M<|J c<|aa<|D H2 en_217 fun r9 _ H3=>J c<|p (ai c c)<|p (ai c c)<|p (aq c)<|O c<|aj<|M<|J c<|aa<|aR H3 (gf c c) c fun v13 _ H4=>J c<|V c c (aK _) (fun g5=>wv<|ae c)<|V c c (aK _) (fun g6=>wv<|ch Tryz.underlying246<|aB c g6)<|p (dm c c)<|ac<|av c H4 (fun k7 H8=>M<|O c<|ag<|Y ⟨false,c,H8⟩) fun k7 H8=>am<|M<|J c<|J c<|V c c (ay _) (fun g9=>wv<|ae c)<|bP H8 (fun k11 H12=>bC H12 fun q21 e13 H14=>G (Z k11)<|z_p (aH<|aL (aB c k11)<|ao e13)<|G (Z k11)<|z_p (ad fld_248_1 c)<|G (Z k11)<|aT H14 aW c (fun _=>c) c fun x23 H15=>G (Z k11)<|z_p (bK c c)<|p (aM c k11 c)<|J c<|V c c (ay _) (fun g16=>wv<|ae<|aL c<|ao e13)<|V c c (ay _) (fun g17=>wv<|aH<|aB c g17)<|V c c (ay _) (fun g18=>wv<|ad fld_248_2<|aB c g18)<|bP H15 (fun k20 H21=>G (Z k20)<|gD H21 fj (aB c k20) (fun _=>c) c fun x30 H22=>G (Z k20)<|z_p (aX c<|jP 1 2)<|G (Z k20)<|z_p (v_eqA eqg_34 (eqr_34 9998 _ _) c c)<|p (aM c k20 c)<|J c<|V c c (ay _) (fun g23=>wv<|ae<|aL c<|ao e13)<|V c c (ay _) (fun g24=>wv<|aH<|aB c g24)<|V c c (ay _) (fun g25=>wv<|ad vq<|aB c g25)<|bP H22 (fun k27 H28=>G (Z k27)<|aT H28 nu (aB c k27) (fun _=>c) c fun x38 H29=>G (Z k27)<|z_p (bK c c)<|p (aM c k27 c)<|J c<|V c c (ay _) (fun g30=>wv<|ae c)<|bP H29 (fun k32 H33=>G (Z k32)<|fT H33 en_201 (aS (aB c k32) bO) c fun r43 _ H34=>G (Z k32)<|z_p (bK c c)<|p (aM c k32 c)<|J c<|V c c (ay _) (fun g35=>wv<|ae c)<|bP H34 (fun k37 H38=>G (Z k37)<|fT H38 en_224 (aS (aB c k37) bO) c fun r48 _ H39=>G (Z k37)<|z_p (bK c c)<|p (aM c k37 c)<|J c<|V c c (ay _) (fun g40=>wv<|ae c)<|bP H39 (fun k42 H43=>G (Z k42)<|D H43 xc fun r53 _ H44=>G (Z k42)<|fT H44 en_141 (aS (aB c k42)<|aS c bO) c fun r54 _ H45=>p (aM c k42 c)<|J c<|V c c (ay _) (fun g46=>wv<|ae c)<|bP H45 (fun k48 H49=>G (Z k48)<|D H49 xc fun r58 _ H50=>G (Z k48)<|fT H50 en_141 (aS (aB c k48)<|aS c bO) c fun r59 _ H51=>G (Z k48)<|z_p (cf c)<|p (aM c k48 c)<|J c<|V c c (ay _) (fun g52=>wv<|ae c)<|bP H51 (fun k54 H55=>G (Z k54)<|fS H55 (fR (vs:=[]) (aB c k54) c) c fun v64 _ H56=>G (Z k54)<|aR H56 (gf c c) c fun v65 _ H57=>p (aM c k54 c)<|J c<|bP H57 (fun k59 H60=>G (Z k59)<|D H60 xc fun r68 _ H61=>G (Z k59)<|aR H61 (gf c c) c fun v69 _ H62=>p (aM c k59 c)<|O c<|ag<|Y ⟨v69,c,H62⟩) fun k59 H60=>W (aP k59)<|W (aP k59)<|p (an c k59 c)<|O c<|ag<|Y ⟨false,c,H60⟩) fun k54 H55=>W (aP k54)<|W (aP k54)<|p (an c k54 c)<|J c<|W c<|W c<|p (an c c c)<|O c<|ag<|Y ⟨false,c,H55⟩) fun k48 H49=>W (aP k48)<|W (aP k48)<|W (aP k48)<|p (an c k48 c)<|J c<|W c<|W c<|W c<|p (an c c c)<|J c<|W c<|W c<|p (an c c c)<|O c<|ag<|Y ⟨false,c,H49⟩) fun k42 H43=>W (aP k42)<|W (aP k42)<|p (an c k42 c)<|J c<|W c<|W c<|W c<|W c<|p (an c c c)<|J c<|W c<|W c<|W c<|p (an c c c)<|J c<|W c<|W c<|p (an c c c)<|O c<|ag<|Y ⟨false,c,H43⟩) fun k37 H38=>W (aP k37)<|W (aP k37)<|p (an c k37 c)<|J c<|W c<|W c<|W c<|p (an c c c)<|J c<|W c<|W c<|W c<|W c<|p (an c c c)<|J c<|W c<|W c<|W c<|p (an c c c)<|J c<|W c<|W c<|p (an c c c)<|O c<|ag<|Y ⟨false,c,H38⟩) fun k32 H33=>W (aP k32)<|W (aP k32)<|p (an c k32 c)<|J c<|W c<|W c<|W c<|p (an c c c)<|J c<|W c<|W c<|W c<|p (an c c c)<|J c<|W c<|W c<|W c<|W c<|p (an c c c)<|J c<|W c<|W c<|W c<|p (an c c c)<|J c<|W c<|W c<|p (an c c c)<|O c<|ag<|Y ⟨false,c,H33⟩) fun k27 H28=>W (aP k27)<|W (aP k27)<|p (an c k27 c)<|J c<|W c<|W c<|W c<|p (an c c c)<|J c<|W c<|W c<|W c<|p (an c c c)<|J c<|W c<|W c<|W c<|p (an c c c)<|J c<|W c<|W c<|W c<|W c<|p (an c c c)<|J c<|W c<|W c<|W c<|p (an c c c)<|J c<|W c<|W c<|p (an c c c)<|O c<|ag<|Y ⟨false,c,H28⟩) fun k20 H21=>W (aP k20)<|W (aP k20)<|W (aP k20)<|p (an c k20 c)<|J c<|W c<|W c<|W c<|W c<|W c<|p (an c c c)<|J c<|W c<|W c<|W c<|p (an c c c)<|J c<|W c<|W c<|W c<|p (an c c c)<|J c<|W c<|W c<|W c<|p (an c c c)<|J c<|W c<|W c<|W c<|W c<|p (an c c c)<|J c<|W c<|W c<|W c<|p (an c c c)<|J c<|W c<|W c<|p (an c c c)<|O c<|ag<|Y ⟨false,c,H21⟩) fun k11 H12=>W (aP k11)<|W (aP k11)<|W (aP k11)<|W (aP k11)<|p (an c k11 c)<|J c<|W c<|W c<|W c<|W c<|W c<|W c<|p (an c c c)<|J c<|W c<|W c<|W c<|W c<|W c<|p (an c c c)<|J c<|W c<|W c<|W c<|p (an c c c)<|J c<|W c<|W c<|W c<|p (an c c c)<|J c<|W c<|W c<|W c<|p (an c c c)<|J c<|W c<|W c<|W c<|W c<|p (an c c c)<|J c<|W c<|W c<|W c<|p (an c c c)<|J c<|W c<|W c<|p (an c c c)<|O c<|ag<|Y ⟨false,c,H12⟩
def pd (K:Bool→Hp→Prop):Hp→Prop:=cl Tryz.prog lf [] az fun r1=>K r1
theorem wk {K:Bool→Hp→Prop} {h:Hp} (H:pd K h):Ct Tryz.prog lg #[] h fun v h'=>∃ r,v = az r∧K r h':=aw [] Tryz.func206 c c c fun _=>M<|O c<|M<|aa<|D H en_218 fun r1 _ H1=>O c<|ag<|Y ⟨r1,c,H1⟩
end Go.Proofs.YtmggcfijlpldpaaGreatDoor
namespace Go.Proofs.YtmggcfijlpldpaaGreatDoor
open Go Mb
variable {ET:Nat} {EF:Nat × Nat}
abbrev s3_:ByteArray:=⟨#[51]⟩
theorem sp_small3:Sp Tryz.prog iT [.int .i64 3] dM [] (fun r=>pa_ (r = s3_) []):=by
  intro h st
  refine sw _ ?_
  unfold lV
  exact dc rfl (eu s3_ (fun K h=>by kernel_rfl) (aU rfl st))
theorem sp_FormatInt3:Sp Tryz.prog gu [.int .i64 3,.int .i64 10] dM [] (fun r=>pa_ (r = s3_) []):=by
  intro h st
  refine pH _ _ ?_
  unfold jC
  refine dc rfl (dc rfl (tt sp_small3 st fun r h' hr s2=>?_))
  exact aU hr s2
theorem sp_Itoa3':Sp Tryz.prog jn [.int .i64 3] dM [] (fun r=>pa_ (r = s3_) []):=by
  intro h st
  refine tq _ ?_
  unfold mz
  exact tt sp_FormatInt3 st fun r h' hr s2=>aU hr s2
theorem sp_Itoa3:Sp Tryz.prog sO [.int .i64 3] dM [] (fun r=>pa_ (r = s3_) []):=by
  intro h st
  refine sim_strconv_Itoa _ ?_
  unfold sh_strconv_Itoa
  exact tt sp_Itoa3' st fun r h' hr s2=>aU hr s2
abbrev t3_:ByteArray:=⟨#[116,114,97,112,32,51]⟩
theorem sp_Error1 (b:Nat) (t:bU) (hc:t.fCode = 3) (ht:t.fErr = Value.nilIface):Sp Tryz.prog iD [pv (some (b,0))] dM [trB b t] (fun r=>pa_ (r = t3_) [trB b t]):=by
  intro h st
  refine re _ ?_
  unfold mP
  refine cZ rfl (cu ?_)
  refine bi t.fCode st (i:=0) rfl rfl rfl ?_
  rw [hc]
  refine tt sp_Itoa3 st fun r h' hr s2=>?_
  subst hr
  refine eu t3_ (fun K h=>by kernel_rfl) ?_
  refine bi t.fErr s2 (i:=0) rfl rfl rfl ?_
  rw [ht]
  refine eu false (fun K h=>by kernel_rfl) (cZ rfl ?_)
  exact aU rfl s2
theorem sp_Error2 (b e:Nat) (t u:bU) (hc:t.fCode = 3) (ht:t.fErr = dn e) (hd:u.fCode = 3) (hu:u.fErr = Value.nilIface):Sp Tryz.prog iD [pv (some (b,0))] dM [trB b t,trB e u] (fun r=>pa_ (r = nS) [trB b t,trB e u]):=by
  intro h st
  refine re _ ?_
  unfold mP
  refine cZ rfl (cu ?_)
  refine bi t.fCode st (i:=0) rfl rfl rfl ?_
  rw [hc]
  refine tt sp_Itoa3 st fun r h' hr s2=>?_
  subst hr
  refine eu t3_ (fun K h=>by kernel_rfl) ?_
  refine bi t.fErr s2 (i:=0) rfl rfl rfl ?_
  rw [ht]
  refine eu true (fun K h=>by kernel_rfl) (dc rfl ?_)
  refine bi t.fErr s2 (i:=0) rfl rfl rfl ?_
  rw [ht]
  refine cln_en (f:=iD) (vs:=[pv (some (e,0))]) (fun K h=>by kernel_rfl) ?_
  refine bH (i:=1) (sp_Error1 e u hd hu) rfl s2 fun r h' hr s3=>?_
  subst hr
  refine eu ⟨#[58,32,116,114,97,112,32,51]⟩ (fun K h=>by kernel_rfl) ?_
  refine eu nS (fun K h=>by kernel_rfl) ?_
  exact aU rfl s3
theorem star_ne {b d:Nat} {T T':TypeId} {c c':List Value} {l:List As} {h:Hp} (s:aE (blk b T c::blk d T' c'::l) h):b ≠ d:=by
  obtain ⟨h1,h2,dj,e,a,h3,h4,dj2,e2,a2,_⟩:=s
  rintro rfl
  have h1b:h1 b = some _:=a
  have h3b:h3 b = some _:=a2
  rcases dj b with x | x
  · rw [h1b] at x; cases x
  · rw [e2,un_left h3b] at x; cases x
theorem sp_Trap_Is (b d:Nat) (t w:bU):Sp Tryz.prog sM [pv (some (b,0)),dn d] az [trB b t,trB d w] (fun r=>pa_ (r = (t.fCode == w.fCode)) [trB b t,trB d w]):=by
  intro h st
  refine sim_trap_Trap_Is _ _ ?_
  unfold sh_trap_Trap_Is
  refine eu (some (d,0),true) (fun K h=>by kernel_rfl) (dc rfl (dc rfl (dc rfl (cu (cu ?_)))))
  refine bi t.fCode st (i:=0) rfl rfl rfl ?_
  refine bi w.fCode st (i:=1) rfl rfl rfl ?_
  exact aU rfl st
theorem sp_Unwrap (b:Nat) (t:bU):Sp Tryz.prog mR [pv (some (b,0))] encV [trB b t] (fun r=>pa_ (r = t.fErr) [trB b t]):=by
  intro h st
  refine sim_trap_Trap_Unwrap _ ?_
  unfold rf
  refine cZ rfl (cu ?_)
  refine bi t.fErr st (i:=0) rfl rfl rfl ?_
  exact aU rfl st
theorem eq_traps {K:Bool→Hp→Prop} {a b n m:Nat} {t u:bU} {l:List As} {h:Hp} (s:aE (trB a t::trB b u::l) h) (k:K false h):hpv Tryz.prog (do eqGuard .eql 195 (.tmp n) (.tmp m) (dn a) (dn b); binOp .eql 195 (dn a) (dn b):Sem Value) az K h:=by
  obtain ⟨g1,a1,sub1⟩:=dR (l:=trB a t::trB b u::l) (A:=trB a t) (i:=0) (by rfl) s
  obtain ⟨g2,a2,sub2⟩:=dR (l:=trB a t::trB b u::l) (A:=trB b u) (i:=1) (by rfl) s
  have q1:h a = some (.cells (bU.C t).toArray ni (0,0)):=sub1 _ _ a1
  have q2:h b = some (.cells (bU.C u).toArray ni (0,0)):=sub2 _ _ a2
  have hne:=star_ne s
  have e:(a == b) = false:=by simpa using hne
  constructor
  rw [y6,cJ]
  refine x25 _ _ q1 q2 ?_
  rw [e]
  exact ⟨false,rfl,k⟩
theorem is_step {b d:Nat} {t w:bU} {l:List As} {h:Hp} {K:Bool→Hp→Prop} {Rec:Value→Hp→Prop} (st:aE (trB b t::trB d w::l) h)
    (h1:t.fCode = w.fCode→∀ h',aE (trB b t::trB d w::l) h'→K true h') (h0:t.fCode ≠ w.fCode→t.fErr = .nilIface→∀ h',aE (trB b t::trB d w::l) h'→K false h')
    (h2:t.fCode ≠ w.fCode→∀ e,t.fErr = dn e→∀ h',aE (trB b t::trB d w::l) h'→Rec (dn e) h') (hok:t.fErr = .nilIface∨∃ e,t.fErr = dn e):rS (dn d) true K Rec (dn b) h:=by
  unfold rS
  refine dc rfl (eq_traps st (cZ rfl ?_))
  refine eu (dn b,true) (fun K h=>by kernel_rfl) (dc rfl ?_)
  refine cln_en (f:=sM) (vs:=[pv (some (b,0)),dn d]) (fun K h=>by kernel_rfl) ?_
  refine cG [] (rest:=l) (sp_Trap_Is b d t w) st rfl fun r h' s2=>?_
  obtain ⟨rfl,s3⟩:=bn.1 s2
  by_cases e:t.fCode = w.fCode
  · exact dc (by simpa using e) (h1 e _ s3)
  · refine cZ (by simpa using e) ?_
    unfold rT
    refine eu (dn b,true) (fun K h=>by kernel_rfl) (dc rfl ?_)
    refine cln_en (f:=mR) (vs:=[pv (some (b,0))]) (fun K h=>by kernel_rfl) ?_
    refine bH (i:=0) (sp_Unwrap b t) rfl s3 fun r h' hr s4=>?_
    subst hr
    rcases hok with hn | ⟨x,hx⟩
    · rw [hn]
      refine eu true (en_00 _) (dc rfl (h0 e hn _ ?_))
      simpa using s4
    · rw [hx]
      refine eu false (en_0 x _) (cZ rfl (h2 e x hx _ ?_))
      simpa using s4
theorem sp_is1 (b d:Nat) (t w:bU) (hc:t.fCode = w.fCode) (hok:t.fErr = .nilIface∨∃ e,t.fErr = dn e):Sp Tryz.prog ny [dn b,dn d,.bool true] az [trB b t,trB d w] (fun r=>pa_ (r = true) [trB b t,trB d w]):=by
  intro h st
  refine sim_errors_is _ _ _ ?_
  unfold wu
  refine ⟨fun s h=>s = dn b∧aE [trB b t,trB d w] h,fun _ _=>0,⟨rfl,st⟩,?_⟩
  rintro _ h1 ⟨rfl,s1⟩
  exact is_step s1 (fun _ h' s2=>aU rfl s2) (fun e=>absurd hc e) (fun e=>absurd hc e) hok
theorem sp_is2 (b e d:Nat) (t u w:bU) (ht:t.fErr = dn e) (hu:u.fErr = .nilIface) (hc:t.fCode ≠ w.fCode) (hd:u.fCode ≠ w.fCode) :
    Sp Tryz.prog ny [dn b,dn d,.bool true] az [trB b t,trB e u,trB d w] (fun r=>pa_ (r = false) [trB b t,trB e u,trB d w]):=by
  intro h st
  refine sim_errors_is _ _ _ ?_
  unfold wu
  refine ⟨fun s h=>(s = dn b∨s = dn e)∧aE [trB b t,trB e u,trB d w] h,fun s _=>match s with | .iface _ (.pointer (some p))=>if p.block = b then 1 else 0 | _=>0,⟨.inl rfl,st⟩,?_⟩
  have hne:e ≠ b:=fun h=>(star_ne st) h.symm
  rintro _ h1 ⟨rfl | rfl,s1⟩
  · refine is_step (l:=[trB e u]) (ba [0,1] s1 rfl) (fun x=>absurd x hc) (fun _ x=>by rw [ht] at x; cases x) (fun _ x hx h' s2=>?_) (.inr ⟨e,ht⟩)
    rw [ht] at hx
    rw [← hx]
    exact ⟨⟨.inr rfl,ba [0,1] s2 rfl⟩,by show (if e = b then 1 else 0) < (if b = b then 1 else 0); rw [if_pos rfl,if_neg hne]; exact Nat.one_pos⟩
  · refine is_step (l:=[trB b t]) (ba [1,1] s1 rfl) (fun x=>absurd x hd) (fun _ _ h' s2=>aU rfl (ba [2,0] s2 rfl)) (fun _ x hx=>by rw [hu] at hx; cases hx) (.inl hu)
theorem sp_Is1 (b d:Nat) (t w:bU) (hc:t.fCode = w.fCode) (hok:t.fErr = .nilIface∨∃ e,t.fErr = dn e):Sp Tryz.prog nz [dn b,dn d] az [trB b t,trB d w] (fun r=>pa_ (r = true) [trB b t,trB d w]):=by
  intro h st
  refine sim_errors_Is _ _ ?_
  unfold ww
  refine eu false (en_0 b _) (dc rfl (eu false (en_0 d _) (cZ rfl ?_)))
  refine te (rtV bc) (fun K h=>x7 d K h) ?_
  refine te true (fun K h=>x13 K h) ?_
  refine cG [] (rest:=[]) (sp_is1 b d t w hc hok) st rfl fun r h' s2=>?_
  obtain ⟨rfl,s3⟩:=bn.1 s2
  exact aU rfl s3
theorem sp_Is2 (b e d:Nat) (t u w:bU) (ht:t.fErr = dn e) (hu:u.fErr = .nilIface) (hc:t.fCode ≠ w.fCode) (hd:u.fCode ≠ w.fCode) :
    Sp Tryz.prog nz [dn b,dn d] az [trB b t,trB e u,trB d w] (fun r=>pa_ (r = false) [trB b t,trB e u,trB d w]):=by
  intro h st
  refine sim_errors_Is _ _ ?_
  unfold ww
  refine eu false (en_0 b _) (dc rfl (eu false (en_0 d _) (cZ rfl ?_)))
  refine te (rtV bc) (fun K h=>x7 d K h) ?_
  refine te true (fun K h=>x13 K h) ?_
  refine cG [] (rest:=[]) (sp_is2 b e d t u w ht hu hc hd) st rfl fun r h' s2=>?_
  obtain ⟨rfl,s3⟩:=bn.1 s2
  exact aU rfl s3
theorem ui {α:Type} {A:α→As} {l:List As} {h:Hp} (s:aE (ex A::l) h):∃ x,aE (A x::l) h:=by
  obtain ⟨h1,h2,d,e,⟨x,a⟩,s2⟩:=s
  exact ⟨x,h1,h2,d,e,a,s2⟩
abbrev tr3:bU:=⟨3,-1,⟨0,0,0,0,0⟩,.nilIface⟩
abbrev tr4:bU:=⟨4,-1,⟨0,0,0,0,0⟩,.nilIface⟩
abbrev tr32 (e:Nat):bU:=⟨3,2,⟨1,2,0,0,0⟩,dn e⟩
theorem sp_begun1:Sp Tryz.prog lf [] az [(etB ET EF)] (fun r=>pa_ (r = true) [(etB ET EF)]):=by
  intro h st
  refine wj ?_
  unfold pb
  refine cG [] (rest:=[(etB ET EF)]) (sp_Of 3 (by decide)) st rfl fun r h1 s1=>?_
  obtain ⟨e,x1⟩:=ui s1
  obtain ⟨rfl,y1⟩:=bn.1 x1
  refine cG [1,0] (rest:=[]) (sp_In 2 ⟨1,2,0,0,0⟩ e tr3) y1 rfl fun r h2 s2=>?_
  obtain ⟨b,x2⟩:=ui s2
  obtain ⟨rfl,y2⟩:=bn.1 x2
  refine bH (i:=1) (sp_First b) rfl y2 fun r h3 hr s3=>?_
  subst hr
  refine eu false (en_0 b _) (cZ rfl (dc rfl (cu ?_)))
  refine bi 2 s3 (i:=0) rfl rfl rfl (dc rfl ?_)
  refine ld_s ⟨1,2,0,0,0⟩ s3 (i:=0) rfl (fun j v hj=>?_) (dc rfl ?_)
  · rcases j with _ | _ | _ | _ | _ | j <;> first | exact hj | (simp [ah.C] at hj)
  refine bi 3 s3 (i:=0) rfl rfl rfl (dc rfl ?_)
  refine cG [1,0] (rest:=[_]) (sp_Code b (tr32 e)) s3 rfl fun r h4 s4=>?_
  obtain ⟨rfl,y4⟩:=bn.1 s4
  refine dc rfl ?_
  refine cG [] (rest:=[]) (sp_Depth2 b e (tr32 e) tr3 rfl rfl) y4 rfl fun r h5 s5=>?_
  obtain ⟨rfl,y5⟩:=bn.1 s5
  refine dc rfl ?_
  refine cG [] (rest:=[_,_,_]) (sp_Of 3 (by decide)) y5 rfl fun r h6 s6=>?_
  obtain ⟨d,x6⟩:=ui s6
  obtain ⟨rfl,y6⟩:=bn.1 x6
  refine cG [2,0] (rest:=[_,_]) (sp_Is1 b d (tr32 e) tr3 rfl (.inr ⟨e,rfl⟩)) y6 rfl fun r h7 s7=>?_
  obtain ⟨rfl,y7⟩:=bn.1 s7
  refine dc rfl ?_
  refine cG [] (rest:=[_,_,_,_]) (sp_Of 4 (by decide)) y7 rfl fun r h8 s8=>?_
  obtain ⟨f,x8⟩:=ui s8
  obtain ⟨rfl,y8⟩:=bn.1 x8
  refine cG [1,3,0] (rest:=[_,_]) (sp_Is2 b e f (tr32 e) tr3 tr4 rfl rfl (show (3:Int) ≠ 4 by decide) (show (3:Int) ≠ 4 by decide)) y8 rfl fun r h9 s9=>?_
  obtain ⟨rfl,y9⟩:=bn.1 s9
  refine dc rfl ?_
  refine cln_en (f:=iD) (vs:=[pv (some (b,0))]) (fun K h=>by kernel_rfl) ?_
  refine cG [] (rest:=[_,_,_]) (sp_Error2 b e (tr32 e) tr3 rfl rfl rfl rfl) y9 rfl fun r h10 s10=>?_
  obtain ⟨rfl,y10⟩:=bn.1 s10
  refine eu true (fun K h=>by kernel_rfl) (dc rfl ?_)
  refine tt sp_Of0 y10 fun r h11 hr s11=>?_
  subst hr
  refine eu true (en_00 _) ?_
  exact aU rfl (bX (l:=[_,_,_,_]) s11)
end Go.Proofs.YtmggcfijlpldpaaGreatDoor
namespace Go.Proofs.YtmggcfijlpldpaaGreatDoor
open Go Mb
set_option linter.unusedVariables false
def sh_cell_New (a0:Int) (K:Ptr→Hp→Prop):Hp→Prop:=nw ql (nK.C (⟨a0,0⟩:nK)) fun b5=>K (some (b5,0))
theorem sim_cell_New (a0:Int) {K:Ptr→Hp→Prop} {h:Hp} (H:sh_cell_New a0 K h):Ct Tryz.prog sT #[(.int .u64 a0)] h fun v h'=>∃ r,v = oO r∧K r h':=aw [(.int .u64 a0)] Tryz.func202 c c c fun _=>M<|O c<|M<|J c<|p (aX c<|build_284_0 a0)<|aa<|gT c c c H fun b5 _ H1=>O c<|ag<|Y ⟨some (b5,0),c,H1⟩
def sh_cell_Cell_Up (a0:Ptr) (a1:Int) (K:(Int × Bool)→Hp→Prop):Hp→Prop:=br a0.isNone ( K (0,false)) ( nn a0 fun q9=>ld (q9.1,q9.2 + 1) (cI .i64) fun x11=>st (q9.1,q9.2 + 1) [.int .i64 (IntKind.i64.wrap (x11 + 1))]<|ld (q9.1,q9.2 + 0) (cI .u64) fun x18=>br (decide (x18 ≥ a1)) ( ld (q9.1,q9.2 + 0) (cI .u64) fun x24=>K (x24,false)) ( ld (q9.1,q9.2 + 0) (cI .u64) fun x28=>st (q9.1,q9.2 + 0) [.int .u64 (IntKind.u64.wrap (x28 + 1))]<|ld (q9.1,q9.2 + 0) (cI .u64) fun x35=>K (x35,true)))
theorem sim_cell_Cell_Up (a0:Ptr) (a1:Int) {K:(Int × Bool)→Hp→Prop} {h:Hp} (H:sh_cell_Cell_Up a0 a1 K h):Ct Tryz.prog oE #[(pv a0),(.int .u64 a1)] h fun v h'=>∃ r,v = bG r∧K r h':=aw [(pv a0),(.int .u64 a1)] Tryz.func204 c c c fun _=>M<|p (aq c)<|O c<|aj<|M<|J c<|p (ch Tryz.underlying264 c)<|ac<|av c H (fun k1 H2=>M<|p (aq c)<|O c<|ag<|bo (bL c (bV c)<|bV c) ⟨(0,false),c,H2⟩) fun k1 H2=>am<|M<|J c<|bC H2 fun q9 e3 H4=>p (aH<|aL c<|ao e3)<|p (ad si c)<|aa<|aT H4 aW c (fun _=>c) c fun x11 H5=>p (bt c c)<|p (aH<|aL c<|ao e3)<|p (ad si c)<|aa<|dq qB c c c c c H5 fun _ H6=>ac<|aj<|M<|J (aL c<|ao e3)<|p (aH c)<|p (ad nE c)<|aa<|aT H6 ck c (fun _=>c) c fun x18 H7=>J c<|p (jy c c)<|ac<|av c H7 (fun k8 H9=>M<|J (aL c<|ao e3)<|p (aH c)<|p (ad nE c)<|aa<|aT H9 ck c (fun _=>c) c fun x24 H10=>p (aq c)<|O c<|ag<|bo (bL c (bV c)<|bV c) ⟨(x24,false),c,H10⟩) fun k8 H9=>am<|M<|J (aL c<|ao e3)<|p (aH c)<|p (ad nE c)<|aa<|aT H9 ck c (fun _=>c) c fun x28 H11=>p (bt c c)<|p (aH c)<|p (ad nE c)<|aa<|dq inf_22 c c c c c H11 fun _ H12=>ac<|M<|J (aL c<|ao e3)<|p (aH c)<|p (ad nE c)<|aa<|aT H12 ck c (fun _=>c) c fun x35 H13=>p (aq c)<|O c<|ag<|bo (bL c (bV c)<|bV c) ⟨(x35,true),c,H13⟩
def tT (a0:Ptr) (K:Int→Hp→Prop):Hp→Prop:=br a0.isNone ( K 0) ( nn a0 fun q6=>ld (q6.1,q6.2 + 1) (cI .i64) fun x8=>st (q6.1,q6.2 + 1) [.int .i64 (IntKind.i64.wrap (x8 + 1))]<|ld (q6.1,q6.2 + 0) (cI .u64) fun x15=>K x15)
theorem sim_cell_Cell_Load (a0:Ptr) {K:Int→Hp→Prop} {h:Hp} (H:tT a0 K h):Ct Tryz.prog lN #[(pv a0)] h fun v h'=>∃ r,v = gC r∧K r h':=aw [(pv a0)] Tryz.func219 c c c fun _=>M<|O c<|aj<|M<|J c<|p (ch Tryz.underlying264 c)<|ac<|av c H (fun k1 H2=>M<|O c<|ag<|Y ⟨0,c,H2⟩) fun k1 H2=>am<|M<|J c<|bC H2 fun q6 e3 H4=>p (aH<|aL c<|ao e3)<|p (ad si c)<|aa<|aT H4 aW c (fun _=>c) c fun x8 H5=>p (bt c c)<|p (aH<|aL c<|ao e3)<|p (ad si c)<|aa<|dq qB c c c c c H5 fun _ H6=>ac<|M<|J (aL c<|ao e3)<|p (aH c)<|p (ad nE c)<|aa<|aT H6 ck c (fun _=>c) c fun x15 H7=>O c<|ag<|Y ⟨x15,c,H7⟩
def vb (a0:Ptr) (a1:Int) (a2:Int) (K:Bool→Hp→Prop):Hp→Prop:=br a0.isNone ( K false) ( nn a0 fun q10=>ld (q10.1,q10.2 + 1) (cI .i64) fun x12=>st (q10.1,q10.2 + 1) [.int .i64 (IntKind.i64.wrap (x12 + 1))]<|ld (q10.1,q10.2 + 0) (cI .u64) fun x19=>br (x19 != a1) ( K false) ( st (q10.1,q10.2 + 0) [.int .u64 a2]<|K true))
theorem sim_cell_Cell_Cas (a0:Ptr) (a1:Int) (a2:Int) {K:Bool→Hp→Prop} {h:Hp} (H:vb a0 a1 a2 K h):Ct Tryz.prog qU #[(pv a0),(.int .u64 a1),(.int .u64 a2)] h fun v h'=>∃ r,v = az r∧K r h':=aw [(pv a0),(.int .u64 a1),(.int .u64 a2)] Tryz.func220 c c c fun _=>M<|O c<|aj<|M<|J c<|p (ch Tryz.underlying264 c)<|ac<|av c H (fun k1 H2=>M<|O c<|ag<|Y ⟨false,c,H2⟩) fun k1 H2=>am<|M<|J c<|bC H2 fun q10 e3 H4=>p (aH<|aL c<|ao e3)<|p (ad si c)<|aa<|aT H4 aW c (fun _=>c) c fun x12 H5=>p (bt c c)<|p (aH<|aL c<|ao e3)<|p (ad si c)<|aa<|dq qB c c c c c H5 fun _ H6=>ac<|aj<|M<|J (aL c<|ao e3)<|p (aH c)<|p (ad nE c)<|aa<|aT H6 ck c (fun _=>c) c fun x19 H7=>J c<|p (nO c c)<|ac<|av c H7 (fun k8 H9=>M<|O c<|ag<|Y ⟨false,c,H9⟩) fun k8 H9=>am<|M<|J (aL c<|ao e3)<|J c<|p (aH c)<|p (ad nE c)<|aa<|dq inf_22 c c c c c H9 fun _ H10=>ac<|M<|O c<|ag<|Y ⟨true,c,H10⟩
end Go.Proofs.YtmggcfijlpldpaaGreatDoor
