/- Part of the proof of: The law KernForm returns true for every input, and leaves its arguments as they were. -/
import Derived.Test.YtniiiakkdoiaiaaGreatDoorKernForm07
set_option linter.all false
namespace Go.Proofs.YtniiiakkdoiaiaaGreatDoor
open Go Mb
abbrev KC:=lB
abbrev co:=aO
structure KK where
  p:PK
  tlbs:List Buf
  boxes:Mail.S
  epochs:Epochs.S
  calls:List (Option KC)
  events:List co
  now:Int
namespace KK
def is (k:KK) (c:Int):Bool:=decide (0 ≤ c∧c < k.calls.length)
def call (k:KK) (c:Int):Option KC:=(k.calls.getD c.toNat none)
def busy (k:KK) (c:Int):Bool:=is k c && (call k c).isSome
def buf (k:KK) (c:Int):Buf:=k.tlbs.getD c.toNat ([],0)
def ev0 (core env:Int) (c:iq) (n:Int):co:=⟨core,env,c,n,0,0,⟨0,0⟩,ms⟩
def begin_ (k:KK) (core env:Int) (c:iq):Bool × KK :=
  if is k core = false∨busy k core = true∨env < 0∨env ≥ k.p.s.fEnvs then (false,k)
  else (true,{ k with now:=IntKind.i64.wrap (k.now + 1),events:=k.events++[ev0 core env c (IntKind.i64.wrap (k.now + 1))],calls:=k.calls.set core.toNat (some ⟨k.events.length,env,c,false,0⟩) })
def goes (p:PK) (x:KC) (e s:Int):Bool :=
  if x.fc.e0 = 5∧e = x.fenv∧s = IntKind.i64.wrap x.fc.e1 then true
  else if Caps.has p.caps e s = true then Caps.under p.caps (Caps.get p.caps e s) ⟨x.fenv,IntKind.i64.wrap x.fc.e1⟩ else false
def left (p:PK) (x:KC) (e pg:Int) (q:Pte):Pte :=
  if x.fc.e0 = 7 then (if x.fenv = e∧IntKind.i64.wrap x.fc.e1 = pg then eD else q)
  else if x.fc.e0 = 8 then (if (x.fenv = e∧IntKind.i64.wrap x.fc.e1 = pg)∧bv (IntKind.i64.wrap x.fc.e2) (Caps.at_ p.caps e q.fSlot).1.fRights = true then { q with fRights:=iand .i64 q.fRights (IntKind.i64.wrap x.fc.e2) } else q)
  else if goes p x e q.fSlot = true then eD else q
def seenFrom (p:PK) (e pg:Int):List (Option KC)→Bool→Pte→Pte × Bool
  | [],b,q=>(q,b)
  | none::cs,b,q=>seenFrom p e pg cs b q
  | some x::cs,b,q=>if b = true∧x.ftold = true then seenFrom p e pg cs ((left p x e pg q).fRights != 0) (left p x e pg q) else seenFrom p e pg cs b q
def seen (k:KK) (e pg:Int):Pte × Bool:=seenFrom k.p e pg k.calls (PK.pte k.p e pg).2 (PK.pte k.p e pg).1
def hits (p:PK) (x:KC) (e pg:Nat):Bool:=(PK.pte p e pg).2 && !(aq.eqb (left p x e pg (PK.pte p e pg).1) (PK.pte p e pg).1)
def takes (p:PK) (x:KC):Bool :=
  if Word.check x.fc p.s.fEnvs ≠ 0∨x.fc.e0 < 4∨x.fc.e0 > 8∨x.fc.e0 = 6 then false
  else (List.range p.s.fEnvs.toNat).any fun e=>(List.range 8).any fun pg=>hits p x e pg
def stale (k:KK) (l:Line):Bool:=decide (0 ≤ l.fEnv) && (!(seen k l.fEnv l.fPage).2 || (seen k l.fEnv l.fPage).1.fFrame != l.fFrame || !(bv l.fRights (seen k l.fEnv l.fPage).1.fRights))
def cleans (k:KK):List Line→Buf→Buf
  | [],b=>b
  | l::ls,b=>if stale k l = true then cleans k ls (Tlb.flush b l.fEnv l.fPage).2 else cleans k ls b
def clean (k:KK) (c:Int):KK:={ k with tlbs:=k.tlbs.set c.toNat (cleans k (Tlb.lines (buf k c)) (buf k c)) }
def evend (e:co) (n:Int) (a:gD) (l:Line):co:={ e with fEffect:=n,fEnd:=n,fAnswer:=a,fLine:=l }
def ends (k:KK) (c:Int) (x:KC) (a:gD) (l:Line):KK :=
  { k with events:=k.events.set x.fat.toNat (evend (k.events.getD x.fat.toNat (ev0 0 0 ⟨0,0,0,0,0⟩ 0)) k.now a l),calls:=k.calls.set c.toNat none }
def tabFor (k:KK) (e pg:Int):List Pte:=if (seen k e pg).2 = true then (Table.insert (List.replicate 8 eD) pg (seen k e pg).1).2 else List.replicate 8 eD
def accWalk (k:KK) (c:Int) (x:KC):(Line × Bool) × Buf:=User.walk (buf k c) (tabFor k x.fenv (IntKind.i64.wrap x.fc.e1)) x.fenv (IntKind.i64.wrap x.fc.e1) (IntKind.i64.wrap x.fc.e0)
def access (k:KK) (c:Int) (x:KC):(gD × Line) × KK :=
  if Word.check x.fc k.p.s.fEnvs ≠ 0 then ((⟨Word.check x.fc k.p.s.fEnvs,0⟩,ms),k)
  else if (accWalk k c x).1.2 = false then ((⟨7,0⟩,ms),{ k with tlbs:=k.tlbs.set c.toNat (accWalk k c x).2 })
  else (((PK.touch k.p (accWalk k c x).1.1.fFrame x.fc).1.1,(accWalk k c x).1.1),{ k with tlbs:=k.tlbs.set c.toNat (accWalk k c x).2,p:=(PK.touch k.p (accWalk k c x).1.1.fFrame x.fc).2 })
def tell (k:KK) (c:Int) (x:KC):KK:={ k with calls:=k.calls.set c.toNat (some { x with ftold:=true }) }
def send (k:KK) (c:Int) (x:KC):KK :=
  { k with epochs:=(Epochs.begin_ k.epochs c).2,calls:=k.calls.set c.toNat (some { x with ftold:=true,fepoch:=(Epochs.begin_ k.epochs c).1.1 }),boxes:=(Mail.sends k.boxes c (Epochs.begin_ k.epochs c).1.1 k.boxes.length).2 }
def tick (k:KK):KK:={ k with now:=IntKind.i64.wrap (k.now + 1) }
def work (k:KK) (c:Int) (x:KC):KK :=
  if dz (aP x.fc).1 = true then ends (access k c x).2 c x (access k c x).1.1 (access k c x).1.2
  else if x.ftold = false∧takes k.p x = true then send (clean (tell k c x) c) c x
  else if x.ftold = true∧Epochs.done k.epochs x.fepoch = false then k
  else if (PK.do_ k.p x.fenv x.fc).1.2 = true then ends { k with p:=(PK.do_ k.p x.fenv x.fc).2 } c x (PK.do_ k.p x.fenv x.fc).1.1 ms
  else { k with p:=(PK.do_ k.p x.fenv x.fc).2 }
def step (k:KK) (c:Int):Bool × KK :=
  if busy k c = false then (false,k) else match call k c with
  | none=>(false,k)
  | some x=>(true,work (tick k) c x)
def post (k:KK) (c:Int):Bool × KK :=
  if is k c = false then (false,k) else if (Mail.take k.boxes c).1.2 = false then (false,k)
  else (true,{ clean { tick k with boxes:=(Mail.take k.boxes c).2 } c with epochs:=(Epochs.ack k.epochs c (Mail.take k.boxes c).1.1).2 })
def evict (k:KK) (c s w:Int):Bool × KK :=
  if is k c = false then (false,k) else if (Tlb.evict (buf k c) s w).1 = false then (false,k)
  else (true,{ tick k with tlbs:=k.tlbs.set c.toNat (Tlb.evict (buf k c) s w).2 })
def mail (k:KK) (c:Int):Int:=if is k c = true then Mail.waits k.boxes c else 0
def lines (k:KK) (c:Int):List Line:=if is k c = true then Tlb.lines (buf k c) else []
def new (s:gj):KK:=⟨PK.new s,List.replicate s.fCores.toNat tlb0,List.replicate s.fCores.toNat [],([],List.replicate s.fCores.toNat 0),List.replicate s.fCores.toNat none,[],0⟩
end KK
structure mh (n:Nat) (l:List Int):Prop where
  up:l.Pairwise (· < ·)
  lo:∀ x ∈ l,1 ≤ x
  hi:∀ x ∈ l,x ≤ n
structure KK.Ok (k:KK):Prop where
  p:PK.Ok k.p
  tl:(k.tlbs.length:Int) = k.p.s.fCores
  bl:(k.boxes.length:Int) = k.p.s.fCores
  el:(k.epochs.2.length:Int) = k.p.s.fCores
  cl:(k.calls.length:Int) = k.p.s.fCores
  cs:∀ x,some x ∈ k.calls→0 ≤ x.fat∧x.fat < k.events.length∧0 ≤ x.fenv∧x.fenv < k.p.s.fEnvs
  n0:0 ≤ k.now
  evn:(k.events.length:Int) ≤ k.now
  epn:(k.epochs.1.length:Int) ≤ k.now
  bx:∀ l ∈ k.boxes,mh k.epochs.1.length l
theorem box_len {n:Nat} {l:List Int} (h:mh n l):l.length ≤ n:=by
  have key:∀ (l:List Int) (a:Int),l.Pairwise (· < ·)→(∀ x ∈ l,a < x)→(∀ x ∈ l,x ≤ n)→(l.length:Int) ≤ max 0 (n - a):=by
    intro l
    induction l with
    | nil=>intro a _ _ _; simp; omega
    | cons b l ih =>
      intro a hp hl hh
      obtain ⟨h1,h2⟩:=List.pairwise_cons.1 hp
      have:=ih b h2 (fun x hx=>h1 x hx) (fun x hx=>hh x (by simp [hx]))
      have:=hl b (by simp)
      have:=hh b (by simp)
      simp only [List.length_cons]; omega
  have:=key l 0 h.up (fun x hx=>by have:=h.lo x hx; omega) h.hi
  omega
theorem box_fit {n:Nat} {l:List Int} (h:mh n l) (hn:n < 2 ^ 40):Mail.Fit l ((n:Int) + 1) :=
  ⟨fun x hx=>by have:=h.hi x hx; omega,h.up,by have:=box_len h; omega⟩
theorem box_more {n m:Nat} {l:List Int} (h:mh n l) (hn:n ≤ m):mh m l:=⟨h.up,h.lo,fun x hx=>by have:=h.hi x hx; omega⟩
theorem box_push {n:Nat} {l:List Int} (h:mh n l):mh (n + 1) (l++[(n:Int) + 1]):=by
  refine ⟨List.pairwise_append.2 ⟨h.up,List.pairwise_singleton _ _,fun a ha b hb=>?_⟩,fun x hx=>?_,fun x hx=>?_⟩
  · rw [List.mem_singleton.1 hb]; have:=h.hi a ha; omega
  · rcases List.mem_append.1 hx with h1 | h1
    · exact h.lo x h1
    · rw [List.mem_singleton.1 h1]; omega
  · rcases List.mem_append.1 hx with h1 | h1
    · have:=h.hi x h1; omega
    · rw [List.mem_singleton.1 h1]; omega
theorem box_drop {n:Nat} {l:List Int} (h:mh n l):mh n (l.drop 1) :=
  ⟨h.up.sublist (List.drop_sublist 1 l),fun x hx=>h.lo x (List.mem_of_mem_drop hx),fun x hx=>h.hi x (List.mem_of_mem_drop hx)⟩
theorem boxes_set {bs:Mail.S} {n:Nat} (h:∀ l ∈ bs,mh n l) (i:Nat) {b:List Int} (hb:mh n b):∀ l ∈ bs.set i b,mh n l:=by
  intro l hl
  rcases List.mem_or_eq_of_mem_set hl with h1 | h1
  · exact h l h1
  · subst h1; exact hb
theorem box_of {bs:Mail.S} {n:Nat} (h:∀ l ∈ bs,mh n l) (c:Int):mh n (Mail.box bs c):=by
  unfold Mail.box
  by_cases hi:c.toNat < bs.length
  · simp [hi]; exact h _ (List.getElem_mem hi)
  · simp [List.getD_eq_getElem?_getD,List.getElem?_eq_none (Nat.le_of_not_lt hi)]
    exact ⟨.nil,fun x hx=>(by cases hx),fun x hx=>(by cases hx)⟩
theorem boxes_send {bs:Mail.S} {n:Nat} (f t:Int) (h:∀ l ∈ bs,mh (n + 1) l) (ht:mh n (Mail.box bs t)):∀ l ∈ (Mail.send bs f t ((n:Int) + 1)).2,mh (n + 1) l:=by
  unfold Mail.send
  split
  · exact boxes_set h _ (box_push ht)
  · exact h
theorem boxes_sends {bs:Mail.S} {n:Nat} (f:Int) (h:∀ l ∈ bs,mh n l):∀ j,j ≤ bs.length→∀ l ∈ (Mail.sends bs f ((n:Int) + 1) j).2,mh (n + 1) l
  | 0,_=>fun l hl=>box_more (h l hl) (by omega)
  | j + 1,hj=>by
    have ih:=boxes_sends f h j (by omega)
    have hb:Mail.box (Mail.sends bs f ((n:Int) + 1) j).2 j = Mail.box bs j:=by
      unfold Mail.box
      rw [Int.toNat_natCast,List.getD_eq_getElem?_getD,List.getD_eq_getElem?_getD,Mail.sends_ge bs f _ j j (Nat.le_refl _)]
    have:=boxes_send f (j:Int) ih (by rw [hb]; exact box_of h _)
    unfold Mail.sends
    split <;> exact this
theorem wrapN {n:Int} (h0:0 ≤ n) (h1:n < 2 ^ 40):IntKind.i64.wrap (n + 1) = n + 1:=cm (by omega) (by omega)
theorem calls_set {k:KK} (ok:KK.Ok k) (i:Nat) {o:Option KC} {n:Int} (hn:(k.events.length:Int) ≤ n) (ho:∀ x,o = some x→0 ≤ x.fat∧x.fat < n∧0 ≤ x.fenv∧x.fenv < k.p.s.fEnvs):∀ x,some x ∈ k.calls.set i o→0 ≤ x.fat∧x.fat < n∧0 ≤ x.fenv∧x.fenv < k.p.s.fEnvs:=by
  intro x hx
  rcases List.mem_or_eq_of_mem_set hx with h1 | h1
  · have:=ok.cs x h1; omega
  · exact ho x h1.symm
theorem kok_new {s:gj} (h:PK.sized s = true):KK.Ok (KK.new s):=by
  have hs:=fL.1 h
  refine ⟨ok_new h,?_,?_,?_,?_,?_,Int.le_refl _,Int.le_refl _,Int.le_refl _,?_⟩
  · simp [KK.new,PK.new]; omega
  · simp [KK.new,PK.new]; omega
  · simp [KK.new,PK.new]; omega
  · simp [KK.new,PK.new]; omega
  · intro x hx
    have:=(List.mem_replicate.1 hx).2
    cases this
  · intro l hl
    rw [(List.mem_replicate.1 hl).2]
    exact ⟨.nil,fun x hx=>(by cases hx),fun x hx=>(by cases hx)⟩
theorem kok_begin {k:KK} (ok:KK.Ok k) (hn:k.now < 2 ^ 40) (core env:Int) (c:iq):KK.Ok (KK.begin_ k core env c).2:=by
  unfold KK.begin_
  split
  · exact ok
  · rename_i h
    have h1:=ok.n0
    have h2:=ok.evn
    have h3:=ok.epn
    simp at h
    have hw:=wrapN h1 hn
    refine ⟨ok.p,ok.tl,ok.bl,ok.el,by simpa using ok.cl,?_,by simp only [hw]; omega,by simp only [hw,List.length_append,List.length_singleton]; omega,by simp only [hw]; omega,ok.bx⟩
    simp only [List.length_append,List.length_singleton]
    refine calls_set ok _ (by omega) fun x hx=>?_
    cases hx
    simp only; omega
theorem kok_tick {k:KK} (ok:KK.Ok k) (hn:k.now < 2 ^ 40):KK.Ok (KK.tick k):=by
  have h1:=ok.n0
  have h2:=ok.evn
  have h3:=ok.epn
  have hw:=wrapN h1 hn
  unfold KK.tick
  exact ⟨ok.p,ok.tl,ok.bl,ok.el,ok.cl,ok.cs,by simp only [hw]; omega,by simp only [hw]; omega,by simp only [hw]; omega,ok.bx⟩
theorem kok_tlbs {k:KK} (ok:KK.Ok k) (i:Nat) (b:Buf):KK.Ok { k with tlbs:=k.tlbs.set i b }:=⟨ok.p,by simpa using ok.tl,ok.bl,ok.el,ok.cl,ok.cs,ok.n0,ok.evn,ok.epn,ok.bx⟩
theorem kok_p {k:KK} (ok:KK.Ok k) {p:PK} (h:PK.Ok p) (hs:p.s = k.p.s):KK.Ok { k with p:=p } :=
  ⟨h,by rw [hs]; exact ok.tl,by rw [hs]; exact ok.bl,by rw [hs]; exact ok.el,by rw [hs]; exact ok.cl,by rw [hs]; exact ok.cs,ok.n0,ok.evn,ok.epn,ok.bx⟩
theorem kok_ends {k:KK} (ok:KK.Ok k) (c:Int) (x:KC) (a:gD) (l:Line):KK.Ok (KK.ends k c x a l):=by
  unfold KK.ends
  refine ⟨ok.p,ok.tl,ok.bl,ok.el,by simpa using ok.cl,?_,ok.n0,by simpa using ok.evn,ok.epn,ok.bx⟩
  simp only [List.length_set]
  exact calls_set ok _ (Int.le_refl _) fun x hx=>by cases hx
theorem touch_s (k:PK) (f:Int) (c:iq):(PK.touch k f c).2.s = k.s:=by
  unfold PK.touch
  repeat' split
  all_goals rfl
theorem alloc_s (k:PK) (e s:Int):(PK.alloc k e s).2.s = k.s:=by
  unfold PK.alloc
  repeat' split
  all_goals rfl
theorem derive_s (k:PK) (e a b c d:Int):(PK.derive k e a b c d).2.s = k.s:=by
  unfold PK.derive
  repeat' split
  all_goals rfl
theorem gone_size (f:Int):∀ (l:List dm) (k:PK),(PK.gone k f l).s = k.s
  | [],_=>rfl
  | _::l,_=>by rw [PK.gone,gone_size f l]
theorem revoke_s (k:PK) (e s:Int) (w:Bool):(PK.revoke k e s w).2.s = k.s:=by
  unfold PK.revoke
  split
  · rfl
  · split <;> simp only [gone_size]
theorem maps_s (k:PK) (e a b c:Int):(PK.maps k e a b c).2.s = k.s:=by
  unfold PK.maps
  repeat' split
  all_goals rfl
theorem protect_s (k:PK) (e a b:Int):(PK.protect k e a b).2.s = k.s:=by
  unfold PK.protect
  repeat' split
  all_goals rfl
theorem user_s (k:PK) (e:Int) (c:iq):(PK.user k e c).2.s = k.s:=by
  unfold PK.user; split
  · rfl
  · exact touch_s _ _ _
theorem does_s (k:PK) (e:Int) (c:iq):(PK.does k e c).2.s = k.s:=by
  unfold PK.does PK.errs
  repeat' split
  all_goals first | rfl | exact alloc_s _ _ _ | exact derive_s _ _ _ _ _ _ | exact revoke_s _ _ _ _ | exact maps_s _ _ _ _ _ | exact protect_s _ _ _ _ | exact user_s _ _ _
theorem do_s (k:PK) (e:Int) (c:iq):(PK.do_ k e c).2.s = k.s:=by
  unfold PK.do_; split
  · rfl
  · split
    · rfl
    · exact does_s _ _ _
theorem kok_access {k:KK} (ok:KK.Ok k) (c:Int) (x:KC):KK.Ok (KK.access k c x).2:=by
  unfold KK.access
  split
  · exact ok
  · split
    · exact kok_tlbs ok _ _
    · have h1:=kok_tlbs ok c.toNat (KK.accWalk k c x).2
      exact kok_p h1 (ok_touch ok.p _ _) (touch_s _ _ _)
theorem kok_clean {k:KK} (ok:KK.Ok k) (c:Int):KK.Ok (KK.clean k c):=kok_tlbs ok _ _
theorem call_ok {k:KK} (ok:KK.Ok k) {c:Int} {x:KC} (h:KK.call k c = some x):0 ≤ x.fat∧x.fat < k.events.length∧0 ≤ x.fenv∧x.fenv < k.p.s.fEnvs:=by
  refine ok.cs x ?_
  unfold KK.call at h
  by_cases hi:c.toNat < k.calls.length
  · simp [hi] at h; rw [← h]; exact List.getElem_mem hi
  · simp [List.getD_eq_getElem?_getD,List.getElem?_eq_none (Nat.le_of_not_lt hi)] at h
theorem kok_call {k:KK} (ok:KK.Ok k) (c:Int) {x y:KC} (h:KK.call k c = some x) (h1:y.fat = x.fat) (h2:y.fenv = x.fenv):KK.Ok { k with calls:=k.calls.set c.toNat (some y) }:=by
  have hc:=call_ok ok h
  refine ⟨ok.p,ok.tl,ok.bl,ok.el,by simpa using ok.cl,calls_set ok _ (Int.le_refl _) fun z hz=>?_,ok.n0,ok.evn,ok.epn,ok.bx⟩
  cases hz
  show 0 ≤ y.fat∧y.fat < (k.events.length:Int)∧0 ≤ y.fenv∧y.fenv < k.p.s.fEnvs
  omega
theorem call_set_same {k:KK} {c:Int} {x y:KC} (h:KK.call k c = some x):({ k with calls:=k.calls.set c.toNat (some y) }:KK).call c = some y:=by
  unfold KK.call at h ⊢
  by_cases hi:c.toNat < k.calls.length
  · simp [hi]
  · simp [List.getD_eq_getElem?_getD,List.getElem?_eq_none (Nat.le_of_not_lt hi)] at h
theorem kok_send {k:KK} (ok:KK.Ok k) (hn:(k.epochs.1.length:Int) + 1 ≤ k.now) {c:Int} {x:KC} (hc:KK.call k c = some { x with ftold:=true }) (hi:KK.is k c = true):KK.Ok (KK.send k c x):=by
  have hc':=call_ok ok hc
  simp only at hc'
  have he:Epochs.is k.epochs c = true:=by
    unfold KK.is at hi
    have h1:=of_decide_eq_true hi
    have:=ok.el
    have:=ok.cl
    unfold Epochs.is
    exact decide_eq_true (by omega)
  have eb:Epochs.begin_ k.epochs c = (((k.epochs.1.length:Int) + 1,true),(k.epochs.1++[c],k.epochs.2)):=if_pos he
  unfold KK.send
  rw [eb]
  refine ⟨ok.p,ok.tl,by rw [← ok.bl]; simp only [Mail.sends_len],ok.el,by simpa using ok.cl,calls_set ok _ (Int.le_refl _) fun z hz=>?_,ok.n0,ok.evn,by simp; omega,?_⟩
  · cases hz; exact hc'
  · simp only [List.length_append,List.length_singleton]
    exact boxes_sends c ok.bx _ (Nat.le_refl _)
theorem kok_work {k:KK} (ok:KK.Ok k) (hn:(k.epochs.1.length:Int) + 1 ≤ k.now) {c:Int} {x:KC} (hc:KK.call k c = some x) (hi:KK.is k c = true):KK.Ok (KK.work k c x):=by
  unfold KK.work
  split
  · exact kok_ends (kok_access ok c x) _ _ _ _
  · split
    · refine kok_send (kok_clean (kok_call ok c hc (y:={ x with ftold:=true }) rfl rfl) c) hn ?_ ?_
      · exact call_set_same hc
      · unfold KK.is at hi ⊢
        show decide (0 ≤ c∧c < ((k.calls.set c.toNat _).length:Int)) = true
        rw [List.length_set]; exact hi
    · split
      · exact ok
      · split
        · exact kok_ends (kok_p ok (ok_do ok.p _ _) (do_s _ _ _)) _ _ _ _
        · exact kok_p ok (ok_do ok.p _ _) (do_s _ _ _)
theorem busy_is {k:KK} {c:Int} (h:KK.busy k c = true):KK.is k c = true∧∃ x,KK.call k c = some x:=by
  unfold KK.busy at h
  rw [Bool.and_eq_true,Option.isSome_iff_exists] at h
  exact h
theorem kok_post {k:KK} (ok:KK.Ok k) (hn:k.now < 2 ^ 40) (c:Int):KK.Ok (KK.post k c).2:=by
  unfold KK.post
  split
  · exact ok
  · split
    · exact ok
    · have o1:=kok_tick ok hn
      have hb:∀ l ∈ (Mail.take k.boxes c).2,mh k.epochs.1.length l:=by
        unfold Mail.take; split
        · exact ok.bx
        · exact boxes_set ok.bx _ (box_drop (box_of ok.bx c))
      have hbl:(Mail.take k.boxes c).2.length = k.boxes.length:=by unfold Mail.take; split <;> simp
      have ha:(Epochs.ack k.epochs c (Mail.take k.boxes c).1.1).2.1 = k.epochs.1∧(Epochs.ack k.epochs c (Mail.take k.boxes c).1.1).2.2.length = k.epochs.2.length:=by
        unfold Epochs.ack; split <;> simp
      refine ⟨ok.p,?_,?_,?_,ok.cl,ok.cs,o1.n0,o1.evn,?_,?_⟩
      · simp only [KK.clean,KK.tick,List.length_set]; exact ok.tl
      · simp only [KK.clean,KK.tick,hbl]; exact ok.bl
      · simp only [KK.clean,KK.tick,ha.2]; exact ok.el
      · show ((Epochs.ack k.epochs c (Mail.take k.boxes c).1.1).2.1.length:Int) ≤ _
        rw [ha.1]; exact o1.epn
      · show ∀ l ∈ (Mail.take k.boxes c).2,mh (Epochs.ack k.epochs c (Mail.take k.boxes c).1.1).2.1.length l
        rw [ha.1]; exact hb
theorem kok_evict {k:KK} (ok:KK.Ok k) (hn:k.now < 2 ^ 40) (c s w:Int):KK.Ok (KK.evict k c s w).2:=by
  unfold KK.evict
  split
  · exact ok
  · split
    · exact ok
    · exact kok_tlbs (kok_tick ok hn) _ _
end Go.Proofs.YtniiiakkdoiaiaaGreatDoor
namespace Go.Proofs.YtniiiakkdoiaiaaGreatDoor
open Go Mb
abbrev vT (s:Sl) (t:Caps.T):As:=vec kS 32 enc8 s t
abbrev vP (s:Sl) (l:List dm):As:=vec rC 2 aR.C s l
def cO (x:Ptr) (t:Caps.T):As:=fun h=>∃ z:Nat × Sl,(x = some (z.1,0)∧Caps.Ok t)∧aQ [blk z.1 nt [sv z.2],vT z.2 t] h
theorem jl {x:Ptr} {t:Caps.T} {l:List As} {h:Hp} (s0:aQ (cO x t::l) h):∃ b s,x = some (b,0)∧Caps.Ok t∧s.len = t.length∧aQ (blk b nt [sv s]::vT s t::l) h:=by
  obtain ⟨⟨b,s⟩,⟨hx,h1⟩,st⟩:=op_ s0
  exact ⟨b,s,hx,h1,(cn (j:=1) st rfl).1,st⟩
theorem tree_cl {b:Nat} {s:Sl} {t:Caps.T} {l:List As} {h:Hp} (h1:Caps.Ok t) (st:aQ (blk b nt [sv s]::vT s t::l) h):aQ (cO (some (b,0)) t::l) h :=
  cl_ (m:=fun z:Nat × Sl=>[blk z.1 nt [sv z.2],vT z.2 t]) (b,s) ⟨rfl,h1⟩ st
theorem enc8_get {r:List Cap} (h:r.length = 8) {n:Nat} {c:Cap} (hn:r[n]? = some c) (j:Nat) (v:Value) (hv:c.C[j]? = some v):(enc8 r)[n * 4 + j]? = some v:=by
  rw [enc8_eq h]; exact tc qg r n j c v hn hv
theorem enc8_set {r:List Cap} (h:r.length = 8) {n:Nat} {c:Cap} (hn:r[n]? = some c) (d:Cap):enc8 (r.set n d) = wr (enc8 r) (n * 4) d.C:=by
  rw [enc8_eq h,enc8_eq (by simpa using h)]
  exact (flat_wr qg r n 0 c d d.C hn (by simp [qg]) (wr_all rfl).symm).symm
theorem wI {σ:Type} {l:List As} {h:Hp} {j k off:Nat} {s:Sl} {t:Caps.T} {q:Nat × Nat} {enc':σ→List Value} {K:σ→Hp→Prop} {e i:Int} (y:σ) (ok:Caps.Ok t) (he:Caps.has t e i = true) (st:aQ l h) (hj:l[j]? = some (vT s t)) (hq:s.a = some q) (hoff:off = q.2 + Int.toNat e * 32 + Int.toNat i * 4 + k)
    (hy:∀ n v,(enc' y)[n]? = some v→(Caps.get t e i).C[k + n]? = some v) (kk:K y h):ld (q.1,off) enc' K h:=by
  obtain ⟨m,n,rfl,rfl,hm,hn⟩:=Caps.has_nat he
  obtain ⟨hn',hg⟩:=Caps.get_nat' ok.row hm hn
  rw [hg] at hy
  refine eB (j:=j) (i:=m) (k:=n * 4 + k) (x:=t[m]) y enc8_len st hj hq (by simp at hoff; omega) (aL hm) (fun a v hv=>?_) kk
  rw [Nat.add_assoc]
  exact enc8_get (ok.row _ (List.getElem_mem hm)) (aL hn') _ _ (hy a v hv)
theorem st_tree {l:List As} {h:Hp} {j off:Nat} {s:Sl} {t:Caps.T} {q:Nat × Nat} {K:Hp→Prop} {e i:Int} (c:Cap) (row:∀ r ∈ t,r.length = 8) (he:Caps.has t e i = true) (st:aQ l h) (hj:l[j]? = some (vT s t)) (hq:s.a = some q) (hoff:off = q.2 + Int.toNat e * 32 + Int.toNat i * 4)
    (kk:∀ h',aQ (l.set j (vT s (Caps.put t e i c))) h'→K h'):Mb.st (q.1,off) c.C K h:=by
  obtain ⟨m,n,rfl,rfl,hm,hn⟩:=Caps.has_nat he
  obtain ⟨hn',hg⟩:=Caps.get_nat' row hm hn
  refine st_v (j:=j) (i:=m) (k:=n * 4) (x:=t[m]) (t[m].set n c) enc8_len st hj hq (by simp at hoff; omega) (aL hm) (by simp [qg]; omega) (enc8_set (row _ (List.getElem_mem hm)) (aL hn') c) fun h' s'=>?_
  refine kk h' ?_
  rw [Caps.put_nat hm]; exact s'
theorem rep8:enc8 (List.replicate 8 rU) = [.int .i64 0,.int .i64 0,.int .i64 0,.int .i64 0,.int .i64 0,.int .i64 0,.int .i64 0,.int .i64 0,.int .i64 0,.int .i64 0,.int .i64 0,.int .i64 0,.int .i64 0,.int .i64 0,.int .i64 0,.int .i64 0,.int .i64 0,.int .i64 0,.int .i64 0,.int .i64 0,.int .i64 0,.int .i64 0,.int .i64 0,.int .i64 0,.int .i64 0,.int .i64 0,.int .i64 0,.int .i64 0,.int .i64 0,.int .i64 0,.int .i64 0,.int .i64 0]:=rfl
theorem sp_caps_New (n:Int) (h1:¬ n < 1) (h2:¬ n > 4):Sp Tryz.prog wF [.int .i64 n] rX [] (fun r=>aQ [cO r (List.replicate n.toNat (List.replicate 8 rU))]):=by
  intro h st
  refine sim_caps_New _ ?_
  unfold sh_caps_New
  obtain ⟨m,rfl⟩:=Int.eq_ofNat_of_zero_le (show 0 ≤ n by omega)
  refine dv (by simp; omega) ?_
  refine nF (τ:=List Cap) (x0:=List.replicate 8 rU) (enc:=enc8) (n:=m) (T:=kS) (m:=32) el_S_8_api_Cap rep8 st ?_ ?_ ?_
  · omega
  · omega
  · intro v h' s1
    refine oT s1 fun b h'' s2=>?_
    exact tree_cl (Caps.ok_new _ (by omega)) s2
theorem sq (x:Ptr) (t:Caps.T) (e s:Int):Sp Tryz.prog ie [pv x,.int .i64 e,.int .i64 s] aG [cO x t] (fun r=>pa_ (r = Caps.has t e s) [cO x t]):=by
  intro h s0
  obtain ⟨b,sl,rfl,ok,hl,st⟩:=jl s0
  refine sim_caps_Tree_is _ _ _ ?_
  unfold sh_caps_Tree_is
  refine bk (fun k=>?_) (fun k=>?_)
  · have k':0 ≤ e:=by simpa using k
    refine cC (bB sl st (i:=0) rfl rfl rfl ?_)
    exact bh (by rw [hl]; simp [Caps.has,k',Bool.and_assoc]) s0
  · have k':¬ 0 ≤ e:=by simpa using k
    exact bh (by simp [Caps.has]; intro h; exact absurd h k') s0
theorem jO (x:Ptr) (t:Caps.T) (e s:Int):Sp Tryz.prog eo [pv x,.int .i64 e,.int .i64 s] cR [cO x t] (fun r=>pa_ (r = Caps.at_ t e s) [cO x t]):=by
  intro h s0
  obtain ⟨b,sl,rfl,ok,hl,st⟩:=jl s0
  refine sim_caps_Tree_At _ _ _ ?_
  unfold sh_caps_Tree_At
  refine df rfl ?_
  refine cT [0] (sq _ t e s) s0 rfl fun r h1 s1=>?_
  obtain ⟨rfl,s2⟩:=bH.1 s1
  refine bk (fun k=>?_) (fun k=>?_)
  · have k':Caps.has t e s = true:=by simpa using k
    obtain ⟨m,n,rfl,rfl,hm,hn⟩:=Caps.has_nat k'
    obtain ⟨b',sl,hb',ok,hl,st⟩:=jl s2
    cases hb'
    refine cC (bB sl st (i:=0) rfl rfl rfl ?_)
    refine dF st (j:=1) rfl (by omega) (by omega) fun q hq=>⟨⟨by omega,by omega⟩,?_⟩
    refine wI (j:=1) (k:=1) (Caps.get t m n).fRights ok k' st rfl hq rfl (c1 rfl rfl) ?_
    unfold iH
    refine bk (fun k2=>?_) (fun k2=>?_)
    · have k2':(Caps.get t m n).fRights = 0:=by simpa using k2
      exact bh (by unfold Caps.at_; rw [if_neg (fun hh=>hh.2 k2')]) s2
    · have k2':¬ (Caps.get t m n).fRights = 0:=by simpa using k2
      refine cC (bB sl st (i:=0) rfl rfl rfl ?_)
      refine dF st (j:=1) rfl (by omega) (by omega) fun q2 hq2=>⟨⟨by omega,by omega⟩,?_⟩
      refine wI (j:=1) (k:=0) (Caps.get t m n) ok k' st rfl hq2 rfl (by simp) ?_
      exact bh (by unfold Caps.at_; rw [if_pos ⟨k',k2'⟩]) s2
  · have k':Caps.has t e s = false:=by simpa using k
    unfold iH
    exact df rfl (bh (by unfold Caps.at_; rw [if_neg (by simp [k'])]) s2)
theorem vW (x:Ptr) (t:Caps.T) (e s f:Int):Sp Tryz.prog jw [pv x,.int .i64 e,.int .i64 s,.int .i64 f] bw [cO x t] (fun r=>pa_ (r = (Caps.root t e s f).1) [cO x (Caps.root t e s f).2]):=by
  intro h s0
  obtain ⟨b,sl,rfl,ok,hl,st⟩:=jl s0
  refine sim_caps_Tree_Root _ _ _ _ ?_
  unfold tX
  refine dv rfl ?_
  refine cT [0] (sq _ t e s) s0 rfl fun r h1 s1=>?_
  obtain ⟨rfl,s2⟩:=bH.1 s1
  have hok:=Caps.ok_root ok e s f
  refine bk (fun k=>?_) (fun k=>?_)
  · have k':Caps.has t e s = false∨f < 0∨f ≥ 16:=by simpa [or_assoc] using k
    have e1:Caps.root t e s f = (2,t):=if_pos k'
    rw [e1]; exact bh rfl s2
  · have k':¬ (Caps.has t e s = false∨f < 0∨f ≥ 16):=by simp at k; simp [k]
    have hh:Caps.has t e s = true:=by simp at k'; exact k'.1
    obtain ⟨m,n,rfl,rfl,hm,hn⟩:=Caps.has_nat hh
    obtain ⟨b',sl,hb',ok,hl,st⟩:=jl s2
    cases hb'
    refine cC (bB sl st (i:=0) rfl rfl rfl ?_)
    refine dF st (j:=1) rfl (by omega) (by omega) fun q hq=>⟨⟨by omega,by omega⟩,?_⟩
    refine wI (j:=1) (k:=1) (Caps.get t m n).fRights ok hh st rfl hq rfl (c1 rfl rfl) ?_
    refine bk (fun k2=>?_) (fun k2=>?_)
    · have k2':(Caps.get t m n).fRights ≠ 0:=by simpa using k2
      have e1:Caps.root t m n f = (4,t):=by unfold Caps.root; rw [if_neg k',if_pos k2']
      rw [e1]; exact bh rfl s2
    · have k2':¬ (Caps.get t m n).fRights ≠ 0:=by simpa using k2
      have e1:Caps.root t m n f = (0,Caps.put t m n ⟨f,3,-1,0⟩):=by unfold Caps.root; rw [if_neg k',if_neg k2']
      rw [e1] at hok ⊢
      refine bB sl st (i:=0) rfl rfl rfl ?_
      refine dF st (j:=1) rfl (by omega) (by omega) fun q2 hq2=>?_
      refine st_tree (j:=1) ⟨f,3,-1,0⟩ ok.row hh st rfl hq2 rfl fun h3 s3=>?_
      exact bh rfl (tree_cl hok s3)
theorem su (x:Ptr) (t:Caps.T) (e src to dst r:Int):Sp Tryz.prog ig [pv x,.int .i64 e,.int .i64 src,.int .i64 to,.int .i64 dst,.int .i64 r] bw [cO x t] (fun v=>pa_ (v = (Caps.derive t e src to dst r).1) [cO x (Caps.derive t e src to dst r).2]):=by
  intro h s0
  obtain ⟨b,sl,rfl,ok,hl,st⟩:=jl s0
  refine sim_caps_Tree_Derive _ _ _ _ _ _ ?_
  unfold ry
  refine dv rfl ?_
  refine cT [0] (sq _ t e src) s0 rfl fun r1 h1 s1=>?_
  obtain ⟨rfl,s2⟩:=bH.1 s1
  have hok:=Caps.ok_derive ok e src to dst r
  have no:(Caps.has t e src = false∨Caps.has t to dst = false∨cM r = false)→Caps.derive t e src to dst r = (2,t):=fun hh=>if_pos hh
  refine bk (fun k=>?_) (fun k=>?_)
  · have k':Caps.has t e src = true:=by simpa using k
    refine cT [0] (sq _ t to dst) s2 rfl fun r3 h3 s3=>?_
    obtain ⟨rfl,s4⟩:=bH.1 s3
    refine bk (fun k2=>?_) (fun k2=>?_)
    · rw [no (.inr (by simpa using k2))]; exact bh rfl s4
    · have k2':Caps.has t to dst = true∧cM r = true:=by simpa using k2
      have hno:¬ (Caps.has t e src = false∨Caps.has t to dst = false∨cM r = false):=by simp [k',k2'.1,k2'.2]
      obtain ⟨m,n,rfl,rfl,hm,hn⟩:=Caps.has_nat k'
      obtain ⟨i,j,rfl,rfl,hi,hj⟩:=Caps.has_nat k2'.1
      obtain ⟨b',sl,hb',ok,hl,st⟩:=jl s4
      cases hb'
      refine cC (bB sl st (i:=0) rfl rfl rfl ?_)
      refine dF st (j:=1) rfl (by omega) (by omega) fun q hq=>⟨⟨by omega,by omega⟩,?_⟩
      refine wI (j:=1) (k:=0) (Caps.get t m n) ok k' st rfl hq rfl (by simp) ?_
      refine bk (fun k3=>?_) (fun k3=>?_)
      · have k3':(Caps.get t m n).fRights = 0:=by simpa using k3
        have e1:Caps.derive t m n i j r = (3,t):=by unfold Caps.derive; rw [if_neg hno,if_pos k3']
        rw [e1]; exact bh rfl s4
      · have k3':¬ (Caps.get t m n).fRights = 0:=by simpa using k3
        refine bB sl st (i:=0) rfl rfl rfl ?_
        refine dF st (j:=1) rfl (by omega) (by omega) fun q2 hq2=>⟨⟨by omega,by omega⟩,?_⟩
        refine wI (j:=1) (k:=1) (Caps.get t i j).fRights ok k2'.1 st rfl hq2 rfl (c1 rfl rfl) ?_
        refine bk (fun k4=>?_) (fun k4=>?_)
        · have k4':(Caps.get t i j).fRights ≠ 0:=by simpa using k4
          have e1:Caps.derive t m n i j r = (4,t):=by unfold Caps.derive; rw [if_neg hno,if_neg k3',if_pos k4']
          rw [e1]; exact bh rfl s4
        · have k4':¬ (Caps.get t i j).fRights ≠ 0:=by simpa using k4
          refine bk (fun k5=>?_) (fun k5=>?_)
          · have k5':bv r (Caps.get t m n).fRights = false:=by simpa using k5
            have e1:Caps.derive t m n i j r = (5,t):=by unfold Caps.derive; rw [if_neg hno,if_neg k3',if_neg k4',if_pos k5']
            rw [e1]; exact bh rfl s4
          · have k5':¬ bv r (Caps.get t m n).fRights = false:=by simpa using k5
            have e1:Caps.derive t m n i j r = (0,Caps.put t i j ⟨(Caps.get t m n).fFrame,r,m,n⟩):=by unfold Caps.derive; rw [if_neg hno,if_neg k3',if_neg k4',if_neg k5']
            rw [e1] at hok ⊢
            refine bB sl st (i:=0) rfl rfl rfl ?_
            refine dF st (j:=1) rfl (by omega) (by omega) fun q3 hq3=>?_
            refine st_tree (j:=1) ⟨(Caps.get t m n).fFrame,r,m,n⟩ ok.row k2'.1 st rfl hq3 rfl fun h6 s6=>?_
            exact bh rfl (tree_cl hok s6)
  · have k':Caps.has t e src = false:=by simpa using k
    rw [no (.inl k')]; exact bh rfl s2
theorem sp_caps_under (x:Ptr) (t:Caps.T) (e s:Int) (p:dm) (he:Caps.has t e s = true):Sp Tryz.prog kP [pv x,.agg (Caps.get t e s).C.toArray,.agg p.C.toArray] aG [cO x t] (fun r=>pa_ (r = Caps.under t (Caps.get t e s) p) [cO x t]):=by
  intro h s0
  obtain ⟨b,sl,rfl,ok,hl,st⟩:=jl s0
  refine sim_caps_Tree_under _ _ _ ?_
  unfold sJ
  refine Lp.intro (fun (c:Cap) h=>∃ a i,c = Caps.get t a i∧Caps.has t a i = true∧Caps.under t c p = Caps.under t (Caps.get t e s) p∧aQ [cO (some (b,0)) t] h) (fun (c:Cap) _=>Caps.deep 40 t c) ⟨e,s,rfl,he,rfl,s0⟩ ?_
  rintro c h ⟨a,i,rfl,ha,hu,s1⟩
  unfold np
  have step:=Caps.under_step ok ha p
  refine bk (fun k=>?_) (fun k=>?_)
  · have k':(Caps.get t a i).fRights ≠ 0∧0 ≤ (Caps.get t a i).fEnv:=by simpa using k
    rw [if_pos k'] at step
    refine bk (fun k2=>?_) (fun k2=>?_)
    · have k2':(Caps.get t a i).fEnv = p.fEnv∧(Caps.get t a i).fSlot = p.fSlot:=by simpa using k2
      rw [if_pos k2'] at step
      exact bh (by rw [← hu,step]) s1
    · have k2':¬ ((Caps.get t a i).fEnv = p.fEnv∧(Caps.get t a i).fSlot = p.fSlot):=by simpa using k2
      rw [if_neg k2'] at step
      have dd:=Caps.deep_step ok ha k'
      obtain ⟨rank,hr⟩:=ok.rk
      obtain ⟨hp,_,_⟩:=hr a i ha k'.1 k'.2
      have hp':=hp
      obtain ⟨m,n,em,en,hm,hn⟩:=Caps.has_nat hp'
      obtain ⟨b',sl,hb',ok,hl,st⟩:=jl s1
      cases hb'
      refine cC (bB sl st (i:=0) rfl rfl rfl ?_)
      refine dF st (j:=1) rfl (by omega) (by omega) fun q hq=>⟨⟨by omega,by omega⟩,?_⟩
      refine wI (j:=1) (k:=0) (Caps.get t (Caps.get t a i).fEnv (Caps.get t a i).fSlot) ok hp st rfl hq rfl (by simp) ?_
      exact ⟨⟨_,_,rfl,hp,by rw [← step]; exact hu,s1⟩,dd⟩
  · have k':¬ ((Caps.get t a i).fRights ≠ 0∧0 ≤ (Caps.get t a i).fEnv):=by simpa using k
    rw [if_neg k'] at step
    exact bh (by rw [← hu,step]) s1
theorem row_app (P:Int→Int→Cap→Bool) (e:Int):∀ (cs:List Cap) (s:Int) (c:Cap),Caps.rowOf P e (cs++[c]) s = Caps.rowOf P e cs s++(if c.fRights ≠ 0∧P e (s + cs.length) c = true then [⟨e,s + cs.length⟩] else [])
  | [],s,c=>by simp [Caps.rowOf]
  | d::cs,s,c=>by
    rw [List.cons_append,Caps.rowOf_c,Caps.rowOf_c,row_app P e cs (s + 1) c]
    have e1:s + 1 + (cs.length:Int) = s + ((d::cs).length:Int):=by simp; omega
    rw [e1]
    split <;> simp
theorem all_app (P:Int→Int→Cap→Bool):∀ (t:Caps.T) (e:Int) (r:List Cap),Caps.allOf P (t++[r]) e = Caps.allOf P t e++Caps.rowOf P (e + t.length) r 0
  | [],e,r=>by simp [Caps.allOf]
  | d::t,e,r=>by
    have e1:e + 1 + (t.length:Int) = e + ((d::t).length:Int):=by simp; omega
    rw [List.cons_append,Caps.allOf,Caps.allOf,all_app P t (e + 1) r,List.append_assoc,e1]
theorem row_len (P:Int→Int→Cap→Bool) (e:Int):∀ (cs:List Cap) (s:Int),(Caps.rowOf P e cs s).length ≤ cs.length
  | [],_=>Nat.le_refl _
  | c::cs,s=>by rw [Caps.rowOf_c]; have:=row_len P e cs (s + 1); split <;> simp <;> omega
theorem all_len (P:Int→Int→Cap→Bool):∀ (t:Caps.T) (e:Int),(∀ r ∈ t,r.length = 8)→(Caps.allOf P t e).length ≤ 8 * t.length
  | [],_,_=>Nat.le_refl _
  | r::t,e,h=>by
    have h1:=row_len P e r 0
    have h2:=h r (by simp)
    have h3:=all_len P t (e + 1) (fun r hr=>h r (by simp [hr]))
    rw [Caps.allOf,List.length_append,List.length_cons]
    omega
theorem sp_caps_all (x:Ptr) (t:Caps.T) (v:Value) (P:Int→Int→Cap→Bool) (A:List As)
    (hv:∀ e s,Caps.has t e s = true→(Caps.get t e s).fRights ≠ 0→SpV Tryz.prog v [.agg (⟨e,s⟩:dm).C.toArray,.agg (Caps.get t e s).C.toArray] aG (cO x t::A) (fun r=>pa_ (r = P e s (Caps.get t e s)) (cO x t::A))) :
    Sp Tryz.prog kh [pv x,v] cY (cO x t::A) (fun r=>aQ (vP r (Caps.allOf P t 0)::cO x t::A)):=by
  intro h s0
  obtain ⟨b,sl,rfl,ok,hl,st⟩:=jl s0
  have h4:=ok.len
  refine sim_caps_Tree_all _ _ ?_
  unfold vd
  refine dv rfl (cC (bB sl st (i:=0) rfl rfl rfl ?_))
  refine Lp.intro (fun (z:Sl × Int) h=>∃ n:Nat,z.2 = n∧n ≤ t.length∧aQ (vP z.1 (Caps.allOf P (t.take n) 0)::cO (some (b,0)) t::A) h) (fun (z:Sl × Int) _=>t.length - z.2.toNat) ⟨0,rfl,Nat.zero_le _,ft s0⟩ ?_
  rintro ⟨z,i⟩ h ⟨n,rfl,hn,s1⟩
  unfold pY
  refine bk (fun k=>?_) (fun k=>?_)
  · have hlt:n < t.length:=by rw [hl] at k; simpa using k
    have hrow:=ok.row _ (List.getElem_mem hlt)
    have hw:IntKind.i64.wrap ((n:Int) + 1) = ((n + 1:Nat):Int):=by rw [cm (by omega) (by omega)]; rfl
    obtain ⟨b',sl',hb',_,hl',st1⟩:=jl (bn [1] s1 rfl)
    cases hb'
    refine bB sl' st1 (i:=0) rfl rfl rfl ?_
    refine dF st1 (j:=1) rfl (by omega) (by show (n:Int) < _; omega) fun q hq=>?_
    have hfl:(t[n].flatMap aH.C).length = 32:=by rw [eq qg,hrow]
    have hld:ld (q.1,q.2 + Int.toNat (n:Int) * 32 + 0) (fun _:Unit=>t[n].flatMap aH.C) (fun _ _=>True) h :=
      eB (j:=1) (i:=n) (k:=0) (x:=t[n]) (enc':=fun _:Unit=>t[n].flatMap aH.C) () enc8_len st1 rfl hq rfl (aL hlt) (fun m v hv=>by rw [Nat.zero_add,enc8_eq hrow]; exact hv) trivial
    obtain ⟨_,qY,_⟩:=hld
    refine loadAt_v (r:=t[n].flatMap aH.C) (cs:=t[n].flatMap aH.C) agn_8_api_Cap (by simpa using qY) hfl rfl ?_
    refine Lp.intro (fun (y:Sl × Int) h=>∃ m:Nat,y.2 = m∧m ≤ 8∧aQ (vP y.1 (Caps.allOf P (t.take n) 0++Caps.rowOf P n (t[n].take m) 0)::cO (some (b,0)) t::A) h) (fun (y:Sl × Int) _=>8 - y.2.toNat) ⟨0,rfl,Nat.zero_le _,by simpa [Caps.rowOf] using s1⟩ ?_
    rintro ⟨y,j⟩ h ⟨m,rfl,hm,s2⟩
    have hal:=all_len P (t.take n) 0 (fun r hr=>ok.row r (List.mem_of_mem_take hr))
    have hrl:=row_len P n (t[n].take m) 0
    simp at hal hrl
    unfold pX
    refine bk (fun k2=>?_) (fun k2=>?_)
    · have hlt2:m < 8:=by have:=of_decide_eq_true k2; omega
      have hm':m < t[n].length:=by omega
      have hw2:IntKind.i64.wrap ((m:Int) + 1) = ((m + 1:Nat):Int):=by rw [cm (by omega) (by omega)]; rfl
      have ht:t[n].take (m + 1) = t[n].take m++[t[n][m]]:=by simp
      have hlen:((t[n].take m).length:Int) = m:=by simp; omega
      have hg:Caps.get t n m = t[n][m]:=(Caps.get_nat' ok.row hlt hlt2).2
      have hrap:=row_app P n (t[n].take m) 0 t[n][m]
      rw [hlen,Int.zero_add] at hrap
      refine index_v (enc:=aH.C) (m:=4) arn_8_api_Cap age_8_api_Cap qg (fun _=>rfl) hrow (aL hm') ?_
      have next:¬ (t[n][m].fRights ≠ 0∧P n m t[n][m] = true)→∀ h,aQ (vP y (Caps.allOf P (t.take n) 0++Caps.rowOf P n (t[n].take m) 0)::cO (some (b,0)) t::A) h→hH (z,(n:Int)) (fun s' h'=>(∃ m:Nat,s'.2 = m∧m ≤ 8∧aQ (vP s'.1 (Caps.allOf P (t.take n) 0++Caps.rowOf P n (t[n].take m) 0)::cO (some (b,0)) t::A) h')∧8 - s'.2.toNat < 8 - (m:Int).toNat) (y,(m:Int)) false h:=by
        intro hno h s3
        unfold hH
        refine dv rfl ?_
        rw [hw2]
        refine ⟨⟨m + 1,rfl,hlt2,?_⟩,by simp; omega⟩
        rw [ht,hrap,if_neg hno,List.append_nil]
        exact s3
      refine bk (fun k3=>?_) (fun k3=>?_)
      · have k3':t[n][m].fRights ≠ 0:=by simpa using k3
        have hc:=hv n m (Caps.has_of hlt hlt2) (by rw [hg]; exact k3')
        rw [hg] at hc
        refine clv_t hc s2 fun r h3 s3=>?_
        obtain ⟨hr,s4⟩:=bH.1 s3
        have s5:=star_rot s4
        subst hr
        cases hP:P n m t[n][m] with
        | false=>exact next (by simp [hP]) _ s5
        | true =>
          unfold hH
          refine df rfl ?_
          refine ku (τ:=dm) (i:=0) (enc:=aR.C) (val:=fun x=>.agg x.C.toArray) th vh place_one (fun _=>rfl) (by omega) rfl rfl s5 rfl (by simp; omega) (by simp; omega) fun v h' s6=>?_
          rw [hw2]
          refine ⟨⟨m + 1,rfl,hlt2,?_⟩,by simp; omega⟩
          rw [ht,hrap,if_pos ⟨k3',hP⟩,← List.append_assoc]
          exact s6
      · have k3':¬ t[n][m].fRights ≠ 0:=by simpa using k3
        exact next (fun hh=>k3' hh.1) _ s2
    · have:m = 8:=by have:=of_decide_eq_false k2; omega
      subst this
      rw [hw]
      refine ⟨⟨n + 1,rfl,hlt,?_⟩,by simp; omega⟩
      have ht:t.take (n + 1) = t.take n++[t[n]]:=by simp
      have hlen:((t.take n).length:Int) = n:=by simp; omega
      rw [ht,all_app,hlen,Int.zero_add]
      rw [show t[n].take 8 = t[n] from by rw [← hrow]; exact List.take_length] at s2
      exact s2
  · have:n = t.length:=by rw [hl] at k; simp at k; omega
    subst this
    rw [List.take_length] at s1
    exact s1
theorem sp_caps_look (x:Ptr) (t:Caps.T) (e s:Int):Sp Tryz.prog lU [pv x,.int .i64 e,.int .i64 s] bw [cO x t] (fun r=>pa_ (r = Caps.look t e s) [cO x t]):=by
  intro h s0
  obtain ⟨b,sl,rfl,ok,hl,st⟩:=jl s0
  refine sim_caps_Tree_look _ _ _ ?_
  unfold tW
  refine dv rfl ?_
  refine cT [0] (sq _ t e s) s0 rfl fun r h1 s1=>?_
  obtain ⟨rfl,s2⟩:=bH.1 s1
  refine bk (fun k=>?_) (fun k=>?_)
  · have k':Caps.has t e s = false:=by simpa using k
    exact bh (by unfold Caps.look; rw [if_pos k']) s2
  · have k':Caps.has t e s = true:=by simpa using k
    obtain ⟨m,n,rfl,rfl,hm,hn⟩:=Caps.has_nat k'
    obtain ⟨b',sl,hb',ok,hl,st⟩:=jl s2
    cases hb'
    refine cC (bB sl st (i:=0) rfl rfl rfl ?_)
    refine dF st (j:=1) rfl (by omega) (by omega) fun q hq=>⟨⟨by omega,by omega⟩,?_⟩
    refine wI (j:=1) (k:=1) (Caps.get t m n).fRights ok k' st rfl hq rfl (c1 rfl rfl) ?_
    refine bk (fun k2=>?_) (fun k2=>?_)
    · have k2':(Caps.get t m n).fRights = 0:=by simpa using k2
      exact bh (by unfold Caps.look; rw [if_neg (by simp [k']),if_pos k2']) s2
    · have k2':¬ (Caps.get t m n).fRights = 0:=by simpa using k2
      exact bh (by unfold Caps.look; rw [if_neg (by simp [k']),if_neg k2']) s2
theorem empties_app:∀ (l:List dm) (t:Caps.T) (p:dm),Caps.empties t (l++[p]) = Caps.put (Caps.empties t l) p.fEnv p.fSlot rU
  | [],_,_=>rfl
  | q::l,t,p=>by rw [List.cons_append,Caps.empties,Caps.empties,empties_app l]
theorem qP (x:Ptr) (t:Caps.T) (s:Sl) (l:List dm) (hl:∀ p ∈ l,Caps.has t p.fEnv p.fSlot = true) (hb:l.length ≤ 64) (hok:Caps.Ok (Caps.empties t l)) :
    Sp Tryz.prog gG [pv x,sv s] cY [cO x t,vP s l] (fun r=>aQ [vP r l,cO x (Caps.empties t l)]):=by
  intro h s0
  obtain ⟨b,sl,rfl,ok,htl,st⟩:=jl s0
  have hsl:=(cn (j:=1) s0 rfl).1
  refine sim_caps_Tree_empties _ _ ?_
  unfold qB
  refine Lp.intro (fun (i:Int) h=>∃ n:Nat,i = n∧n ≤ l.length∧aQ [blk b nt [sv sl],vT sl (Caps.empties t (l.take n)),vP s l] h) (fun (i:Int) _=>l.length - i.toNat) ⟨0,rfl,Nat.zero_le _,st⟩ ?_
  rintro i h ⟨n,rfl,hn,s1⟩
  unfold lz
  refine bk (fun k=>?_) (fun k=>?_)
  · have hlt:n < l.length:=by rw [hsl] at k; simpa using k
    have hw:IntKind.i64.wrap ((n:Int) + 1) = ((n + 1:Nat):Int):=by rw [cm (by omega) (by omega)]; rfl
    refine dF s1 (j:=2) rfl (by omega) (by omega) fun q hq=>?_
    refine eB (j:=2) (i:=n) (k:=0) l[n] vh s1 rfl hq rfl (aL hlt) (by simp) ?_
    have hh:=hl _ (List.getElem_mem hlt)
    have hh2:Caps.has (Caps.empties t (l.take n)) l[n].fEnv l[n].fSlot = true:=by rw [Caps.empties_has]; exact hh
    have hh3:=hh2
    obtain ⟨i,j,ei,ej,hi,hj⟩:=Caps.has_nat hh3
    refine cC (bB sl s1 (i:=0) rfl rfl rfl ?_)
    refine dF s1 (j:=1) rfl (by omega) (by omega) fun q2 hq2=>⟨⟨by omega,by omega⟩,?_⟩
    refine st_tree (j:=1) rU (Caps.empties_row _ _ ok.row) hh2 s1 rfl hq2 rfl fun h3 s3=>?_
    rw [hw]
    refine ⟨⟨n + 1,rfl,hlt,?_⟩,by simp; omega⟩
    have ht:l.take (n + 1) = l.take n++[l[n]]:=by simp
    rw [ht,empties_app]
    exact s3
  · have:n = l.length:=by rw [hsl] at k; simp at k; omega
    subst this
    rw [List.take_length] at s1
    have s2:=tree_cl hok s1
    exact bn [1] s2 rfl
theorem sp_caps_Below (x:Ptr) (t:Caps.T) (e s:Int):Sp Tryz.prog kQ [pv x,.int .i64 e,.int .i64 s] cY [cO x t] (fun r=>aQ [vP r (Caps.below t e s),cO x t]):=by
  intro h s0
  refine sim_caps_Tree_Below _ _ _ ?_
  unfold sK
  refine oT s0 fun b3 h1 s1=>?_
  refine oT s1 fun b4 h2 s2=>?_
  refine oT s2 fun b5 h3 s3=>?_
  refine bB x s3 (i:=2) rfl rfl rfl ?_
  refine cT [3,2,1,0] (sp_caps_all x t _ (fun _ _ c=>Caps.under t c ⟨e,s⟩) [blk b3 rD [pv x],blk b4 kJ [.int .i64 e],blk b5 kJ [.int .i64 s]] ?_) s3 rfl fun r h4 s4=>?_
  · intro a i ha hne
    refine ⟨_,_,_,rfl,uB,fun h s5=>?_⟩
    refine wm ⟨a,i⟩ (Caps.get t a i) b3 b4 b5 ?_
    unfold pu
    refine bB x s5 (i:=1) rfl rfl rfl ?_
    refine bB e s5 (i:=2) rfl rfl rfl ?_
    refine bB s s5 (i:=3) rfl rfl rfl ?_
    refine cT [0] (sp_caps_under x t a i ⟨e,s⟩ ha) s5 rfl fun r h6 s6=>?_
    obtain ⟨rfl,s7⟩:=bH.1 s6
    exact bh rfl s7
  · have s5:=dJ s4
    exact nv (l:=[vP r (Caps.below t e s),cO x t]) s5
theorem sp_caps_Revoke (x:Ptr) (t:Caps.T) (e s:Int):Sp Tryz.prog ni [pv x,.int .i64 e,.int .i64 s] dE [cO x t] (fun r=>pa_ (r.2 = (Caps.revoke t e s).1.2) [vP r.1 (Caps.revoke t e s).1.1,cO x (Caps.revoke t e s).2]):=by
  intro h s0
  have ok:Caps.Ok t:=by obtain ⟨_,_,_,ok,_⟩:=jl s0; exact ok
  refine sim_caps_Tree_Revoke _ _ _ ?_
  unfold rx
  refine cT [0] (sp_caps_look x t e s) s0 rfl fun r h1 s1=>?_
  obtain ⟨rfl,s2⟩:=bH.1 s1
  refine bk (fun k=>?_) (fun k=>?_)
  · have k':Caps.look t e s ≠ 0:=by simpa using k
    have e1:Caps.revoke t e s = (([],Caps.look t e s),t):=if_pos k'
    rw [e1]
    exact bh rfl (ft s2)
  · have k':¬ Caps.look t e s ≠ 0:=by simpa using k
    have e1:Caps.revoke t e s = ((Caps.below t e s,0),Caps.empties t (Caps.below t e s)):=if_neg k'
    rw [e1]
    refine cT [0] (sp_caps_Below x t e s) s2 rfl fun r h3 s3=>?_
    have s4:=dJ s3
    have h8:(Caps.below t e s).length ≤ 64:=by
      have:=all_len (fun _ _ c=>Caps.under t c ⟨e,s⟩) t 0 ok.row
      have:=ok.len
      unfold Caps.below; omega
    refine cT [1,0] (qP x t r (Caps.below t e s) (fun p hp=>((Caps.mem_below ok).1 hp).1) h8 (Caps.ok_below ok e s)) s4 rfl fun v h5 s5=>?_
    exact bh rfl (dJ s5)
theorem sp_caps_Drop (x:Ptr) (t:Caps.T) (e s:Int):Sp Tryz.prog lV [pv x,.int .i64 e,.int .i64 s] dE [cO x t] (fun r=>pa_ (r.2 = (Caps.drop t e s).1.2) [vP r.1 (Caps.drop t e s).1.1,cO x (Caps.drop t e s).2]):=by
  intro h s0
  have ok:Caps.Ok t:=by obtain ⟨_,_,_,ok,_⟩:=jl s0; exact ok
  refine sim_caps_Tree_Drop _ _ _ ?_
  unfold tY
  refine oT s0 fun b3 h1 s1=>?_
  refine bB x s1 (i:=0) rfl rfl rfl ?_
  refine cT [1] (sp_caps_look x t e s) s1 rfl fun r h2 s2=>?_
  obtain ⟨rfl,s3⟩:=bH.1 s2
  refine bk (fun k=>?_) (fun k=>?_)
  · have k':Caps.look t e s ≠ 0:=by simpa using k
    have e1:Caps.drop t e s = (([],Caps.look t e s),t):=if_pos k'
    rw [e1]
    exact bh rfl (ft (nv (l:=[cO x t]) s3))
  · have k':¬ Caps.look t e s ≠ 0:=by simpa using k
    have e1:Caps.drop t e s = ((Caps.own t e s,0),Caps.empties t (Caps.own t e s)):=if_neg k'
    rw [e1]
    have h8:(Caps.own t e s).length ≤ 64:=by
      have:=all_len (fun a b c=>aR.eqb ⟨a,b⟩ ⟨e,s⟩ || Caps.under t c ⟨e,s⟩) t 0 ok.row
      have:=ok.len
      unfold Caps.own; omega
    refine oT s3 fun b9 h4 s4=>?_
    refine tw (i:=0) s4 rfl (by simp [vh]) fun h5 s5=>?_
    refine bB x s5 (i:=2) rfl rfl rfl ?_
    have hall:=sp_caps_all x t (.func (.func gH) #[] #[(.pointer (some ⟨b9,0,none⟩)),(.pointer (some ⟨b3,0,none⟩))]) (fun a b c=>aR.eqb ⟨a,b⟩ ⟨e,s⟩ || Caps.under t c ⟨e,s⟩) [blk b9 rC (⟨e,s⟩:dm).C,blk b3 rD [pv x]] ?_
    · refine ⟨?_,?_⟩
      · refine bB x s5 (i:=2) rfl rfl rfl ?_
        refine cT [1,0,0] hall s5 rfl fun r h6 s6=>?_
        have s7:=dJ s6
        refine cT [1,0] (qP x t r (Caps.own t e s) (fun p hp=>((Caps.mem_own ok).1 hp).1) h8 (Caps.ok_own ok e s)) s7 rfl fun v h8 s8=>?_
        exact bh rfl (nv (l:=[vP v (Caps.own t e s),cO x (Caps.empties t (Caps.own t e s))]) (dJ s8))
      · refine cT [1,0,0] hall s5 rfl fun r h6 s6=>?_
        have s7:=dJ s6
        refine bB x s7 (i:=3) rfl rfl rfl ?_
        refine cT [1,0] (qP x t r (Caps.own t e s) (fun p hp=>((Caps.mem_own ok).1 hp).1) h8 (Caps.ok_own ok e s)) s7 rfl fun v h8 s8=>?_
        exact bh rfl (nv (l:=[vP v (Caps.own t e s),cO x (Caps.empties t (Caps.own t e s))]) (dJ s8))
    · intro a i ha hne
      refine ⟨_,_,_,rfl,vv,fun h s6=>?_⟩
      refine sim_caps_Tree_Drop_c1 ⟨a,i⟩ (Caps.get t a i) b9 b3 ?_
      unfold qC
      refine ld_s (i:=1) (⟨e,s⟩:dm) s6 rfl (by simp) ?_
      refine bk (fun k=>?_) (fun k=>?_)
      · have k':aR.eqb ⟨a,i⟩ ⟨e,s⟩ = false:=by simpa using k
        refine bB x s6 (i:=2) rfl rfl rfl ?_
        refine ld_s (i:=1) (⟨e,s⟩:dm) s6 rfl (by simp) ?_
        refine cT [0] (sp_caps_under x t a i ⟨e,s⟩ ha) s6 rfl fun r h7 s7=>?_
        obtain ⟨rfl,s8⟩:=bH.1 s7
        exact bh (by rw [k']; rfl) s8
      · have k':aR.eqb ⟨a,i⟩ ⟨e,s⟩ = true:=by simpa using k
        exact bh (by rw [k']; rfl) s6
end Go.Proofs.YtniiiakkdoiaiaaGreatDoor
