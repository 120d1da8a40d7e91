/- Part of the proof of: The law PicksAll returns true for every input, and leaves its arguments as they were. -/
import Derived.Test.YtniiiakkdoiaiaaGreatDoorPicksAll05
set_option linter.all false
namespace Go.Proofs.YtniiiakkdoiaiaaGreatDoor
open Go Mb
structure PK where
  s:aH
  m:List (List Int)
  tabs:List (List Pte)
  pool:List Int
  caps:Caps.T
abbrev gy:=al
abbrev kQ:=aH
namespace PK
def off (k:PK) (e:Int):Bool:=decide (e < 0) || decide (e ≥ k.s.fEnvs)
def tab (k:PK) (e:Int):List Pte:=k.tabs.getD e.toNat []
def pte (k:PK) (e p:Int):Pte × Bool:=if off k e = true then (eE,false) else Table.get (tab k e) p
def touch (k:PK) (f:Int) (c:jE):(gy × Bool) × PK :=
  if (Word.arg c 2 16).2 = false∨dw (aN c).1 = false then ((⟨0,0⟩,false),k)
  else if (aN c).1 = 20 then ((⟨0,(Mem.load k.m f (Word.arg c 2 16).1).1⟩,(Mem.load k.m f (Word.arg c 2 16).1).2),k)
  else if (aN c).1 = 21 then ((⟨0,0⟩,(Mem.store k.m f (Word.arg c 2 16).1 c.e3).1),{ k with m:=(Mem.store k.m f (Word.arg c 2 16).1 c.e3).2 })
  else if (aN c).1 = 22 then ((⟨0,(Mem.cas k.m f (Word.arg c 2 16).1 c.e3 c.e4).1.1⟩,(Mem.cas k.m f (Word.arg c 2 16).1 c.e3 c.e4).1.2),{ k with m:=(Mem.cas k.m f (Word.arg c 2 16).1 c.e3 c.e4).2 })
  else ((⟨0,(Mem.add k.m f (Word.arg c 2 16).1 c.e3).1.1⟩,(Mem.add k.m f (Word.arg c 2 16).1 c.e3).1.2),{ k with m:=(Mem.add k.m f (Word.arg c 2 16).1 c.e3).2 })
def alloc (k:PK) (e s:Int):Int × PK :=
  if (Caps.at_ k.caps e s).2 = true then (4,k) else if (Pool.take k.pool).2.1 = false then (6,k)
  else ((Caps.root k.caps e s (Pool.take k.pool).1).1,{ k with pool:=(Pool.take k.pool).2.2,m:=(Mem.zero k.m (Pool.take k.pool).1).2,caps:=(Caps.root k.caps e s (Pool.take k.pool).1).2 })
def derive (k:PK) (e src to dst r:Int):Int × PK :=
  if (Caps.derive k.caps e src to dst r).1 ≠ 0 then ((Caps.derive k.caps e src to dst r).1,k)
  else if (Pool.hold k.pool (Caps.at_ (Caps.derive k.caps e src to dst r).2 to dst).1.fFrame).1 = false then (6,{ k with caps:=(Caps.drop (Caps.derive k.caps e src to dst r).2 to dst).2 })
  else (0,{ k with caps:=(Caps.derive k.caps e src to dst r).2,pool:=(Pool.hold k.pool (Caps.at_ (Caps.derive k.caps e src to dst r).2 to dst).1.fFrame).2 })
def unmaps (ps:List Pte):List Int→List Pte
  | []=>ps
  | i::l=>unmaps (Table.remove ps i).2 l
def unmap (ps:List Pte) (s:Int):List Pte:=unmaps ps (Table.by_ ps s)
def gone (k:PK) (f:Int):List dl→PK
  | []=>k
  | p::l=>gone { k with tabs:=k.tabs.set p.fEnv.toNat (unmap (tab k p.fEnv) p.fSlot),pool:=(Pool.lets k.pool f).2.2 } f l
def revoke (k:PK) (e s:Int) (w:Bool):gy × PK :=
  if (Caps.revoke k.caps e s).1.2 ≠ 0 then (⟨(Caps.revoke k.caps e s).1.2,0⟩,k)
  else if w = true then (⟨0,IntKind.u64.wrap ((Caps.revoke k.caps e s).1.1++(Caps.drop (Caps.revoke k.caps e s).2 e s).1.1).length⟩,
    gone { k with caps:=(Caps.drop (Caps.revoke k.caps e s).2 e s).2 } (Caps.at_ k.caps e s).1.fFrame ((Caps.revoke k.caps e s).1.1++(Caps.drop (Caps.revoke k.caps e s).2 e s).1.1))
  else (⟨0,IntKind.u64.wrap (Caps.revoke k.caps e s).1.1.length⟩,gone { k with caps:=(Caps.revoke k.caps e s).2 } (Caps.at_ k.caps e s).1.fFrame (Caps.revoke k.caps e s).1.1)
def maps (k:PK) (e pg s r:Int):Int × PK :=
  if (Caps.at_ k.caps e s).2 = false then (3,k) else if (Table.get (tab k e) pg).2 = true then (4,k) else if bu r (Caps.at_ k.caps e s).1.fRights = false then (5,k)
  else ((Table.insert (tab k e) pg ⟨(Caps.at_ k.caps e s).1.fFrame,s,r⟩).1,{ k with tabs:=k.tabs.set e.toNat (Table.insert (tab k e) pg ⟨(Caps.at_ k.caps e s).1.fFrame,s,r⟩).2 })
def protect (k:PK) (e pg r:Int):Int × PK :=
  if (Table.get (tab k e) pg).2 = false then (3,k) else if bu r (Caps.at_ k.caps e (Table.get (tab k e) pg).1.fSlot).1.fRights = false then (5,k)
  else ((Table.protect (tab k e) pg r).1,{ k with tabs:=k.tabs.set e.toNat (Table.protect (tab k e) pg r).2 })
def remove (k:PK) (e pg:Int):Int × PK:=((Table.remove (tab k e) pg).1.2,{ k with tabs:=k.tabs.set e.toNat (Table.remove (tab k e) pg).2 })
def sleep (k:PK) (e:Int) (c:jE):gy × Bool :=
  if (Caps.at_ k.caps e (IntKind.i64.wrap c.e1)).2 = false then (⟨3,0⟩,true) else if bu 1 (Caps.at_ k.caps e (IntKind.i64.wrap c.e1)).1.fRights = false then (⟨5,0⟩,true)
  else if mK (IntKind.i64.wrap c.e3) (Mem.load k.m (Caps.at_ k.caps e (IntKind.i64.wrap c.e1)).1.fFrame (IntKind.i64.wrap c.e2)).1 c.e4 = false then (⟨0,0⟩,false)
  else (⟨0,(Mem.load k.m (Caps.at_ k.caps e (IntKind.i64.wrap c.e1)).1.fFrame (IntKind.i64.wrap c.e2)).1⟩,true)
def user (k:PK) (e:Int) (c:jE):gy × PK :=
  if (Table.get (tab k e) (IntKind.i64.wrap c.e1)).2 = false∨du (Table.get (tab k e) (IntKind.i64.wrap c.e1)).1.fRights (IntKind.i64.wrap c.e0) = false then (⟨7,0⟩,k)
  else ((touch k (Table.get (tab k e) (IntKind.i64.wrap c.e1)).1.fFrame c).1.1,(touch k (Table.get (tab k e) (IntKind.i64.wrap c.e1)).1.fFrame c).2)
def errs (r:Int × PK):(gy × Bool) × PK:=((⟨r.1,0⟩,true),r.2)
def does (k:PK) (e:Int) (c:jE):(gy × Bool) × PK :=
  if IntKind.i64.wrap c.e0 = 1 then errs (alloc k e (IntKind.i64.wrap c.e1))
  else if IntKind.i64.wrap c.e0 = 2 then errs (derive k e (IntKind.i64.wrap c.e1) e (IntKind.i64.wrap c.e2) (IntKind.i64.wrap c.e3))
  else if IntKind.i64.wrap c.e0 = 3 then errs (derive k e (IntKind.i64.wrap c.e1) (IntKind.i64.wrap c.e2) (IntKind.i64.wrap c.e3) (IntKind.i64.wrap c.e4))
  else if IntKind.i64.wrap c.e0 = 5 then (((revoke k e (IntKind.i64.wrap c.e1) true).1,true),(revoke k e (IntKind.i64.wrap c.e1) true).2)
  else if IntKind.i64.wrap c.e0 = 4 then (((revoke k e (IntKind.i64.wrap c.e1) false).1,true),(revoke k e (IntKind.i64.wrap c.e1) false).2)
  else if IntKind.i64.wrap c.e0 = 6 then errs (maps k e (IntKind.i64.wrap c.e1) (IntKind.i64.wrap c.e2) (IntKind.i64.wrap c.e3))
  else if IntKind.i64.wrap c.e0 = 7 then errs (remove k e (IntKind.i64.wrap c.e1))
  else if IntKind.i64.wrap c.e0 = 8 then errs (protect k e (IntKind.i64.wrap c.e1) (IntKind.i64.wrap c.e2))
  else if IntKind.i64.wrap c.e0 = 9 then (sleep k e c,k)
  else if IntKind.i64.wrap c.e0 = 10 then ((⟨0,0⟩,true),k)
  else (((user k e c).1,true),(user k e c).2)
def do_ (k:PK) (e:Int) (c:jE):(gy × Bool) × PK :=
  if off k e = true then ((⟨10,0⟩,true),k) else if Word.check c k.s.fEnvs ≠ 0 then ((⟨Word.check c k.s.fEnvs,0⟩,true),k) else does k e c
def new (s:kQ):PK:=⟨s,List.replicate s.fFrames.toNat (List.replicate 16 0),List.replicate s.fEnvs.toNat (List.replicate 8 eE),List.replicate s.fFrames.toNat 0,List.replicate s.fEnvs.toNat (List.replicate 8 rd)⟩
def sized (s:kQ):Bool:=!(decide (s.fCores < 1) || decide (s.fCores > 8) || decide (s.fEnvs < 1) || decide (s.fEnvs > 4) || decide (s.fFrames < 1) || decide (s.fFrames > 16))
end PK
def PteFine (p:Pte):Prop:=p = eE∨(0 ≤ p.fFrame∧p.fFrame < 16∧0 ≤ p.fSlot∧p.fSlot < 8∧cN p.fRights = true)
def CapFine (n:Int) (t:Caps.T) (c:Cap):Prop :=
  c = rd∨(c.fRights = 3∧c.fEnv = -1∧c.fSlot = 0∧0 ≤ c.fFrame∧c.fFrame < n) ∨
  (0 ≤ c.fEnv∧0 ≤ c.fFrame∧c.fFrame < n∧bu c.fRights (Caps.get t c.fEnv c.fSlot).fRights = true∧(Caps.get t c.fEnv c.fSlot).fFrame = c.fFrame)
def fx (n:Int) (t:Caps.T):Prop:=∀ e s,Caps.has t e s = true→CapFine n t (Caps.get t e s)
structure PK.Ok (k:PK):Prop where
  sz:PK.sized k.s = true
  ml:(k.m.length:Int) = k.s.fFrames
  mr:∀ r ∈ k.m,r.length = 16
  tl:(k.tabs.length:Int) = k.s.fEnvs
  tr:∀ ps ∈ k.tabs,ps.length = 8∧∀ p ∈ ps,PteFine p
  pl:(k.pool.length:Int) = k.s.fFrames
  pr:∀ n ∈ k.pool,0 ≤ n∧n ≤ 7
  cl:(k.caps.length:Int) = k.s.fEnvs
  tree:Caps.Ok k.caps
  fine:fx k.s.fFrames k.caps
theorem jq {s:kQ}:PK.sized s = true↔1 ≤ s.fCores∧s.fCores ≤ 8∧1 ≤ s.fEnvs∧s.fEnvs ≤ 4∧1 ≤ s.fFrames∧s.fFrames ≤ 16:=by
  unfold PK.sized; simp; omega
theorem may_iff {r:Int}:cN r = true↔1 ≤ r∧r ≤ 3:=by unfold cN; simp
theorem vR {a b:Int} (h:bu a b = true):(1 ≤ a∧a ≤ 3)∧(1 ≤ b∧b ≤ 3):=by
  unfold bu at h; simp only [Bool.and_eq_true,may_iff] at h; exact h.1
theorem wrapR {n:Int} (h0:-2^63 ≤ n) (h1:n < 2^63):IntKind.i64.wrap n = n:=cf h0 h1
theorem ok_new {s:kQ} (h:PK.sized s = true):PK.Ok (PK.new s):=by
  have hs:=jq.1 h
  refine ⟨h,by simp [PK.new]; omega,?_,by simp [PK.new]; omega,?_,by simp [PK.new]; omega,?_,by simp [PK.new]; omega,Caps.ok_new _ (by omega),?_⟩
  · intro r hr; rw [(List.mem_replicate.1 hr).2]; rfl
  · intro r hr; rw [(List.mem_replicate.1 hr).2]
    exact ⟨rfl,fun p hp=>.inl (List.mem_replicate.1 hp).2⟩
  · intro r hr; rw [(List.mem_replicate.1 hr).2]; omega
  · intro e i hh
    obtain ⟨a,b,rfl,rfl,ha,hb⟩:=Caps.has_nat hh
    simp only [PK.new,List.length_replicate] at ha
    left
    simp only [Caps.get,PK.new,Int.toNat_natCast,List.getD_eq_getElem?_getD,List.getElem?_replicate,if_pos ha,Option.getD_some,if_pos hb]
def px (ps:List Pte):Prop:=ps.length = 8∧∀ p ∈ ps,PteFine p
theorem tab_set {ps:List Pte} (h:px ps) (n:Nat) {p:Pte} (hp:PteFine p):px (ps.set n p) :=
  ⟨by simpa using h.1,fun q hq=>by
    rcases List.mem_or_eq_of_mem_set hq with h1 | h1
    · exact h.2 q h1
    · subst h1; exact hp⟩
theorem tab_at {ps:List Pte} (h:px ps) (i:Int):PteFine (Table.at_ ps i):=by
  unfold Table.at_
  by_cases hi:i.toNat < ps.length
  · simp [hi]; exact h.2 _ (List.getElem_mem hi)
  · simp [List.getD_eq_getElem?_getD,List.getElem?_eq_none (Nat.le_of_not_lt hi)]; exact .inl rfl
theorem put_fine {p:Pte} (h:(gr p).2 = true) (h0:p.fRights ≠ 0):PteFine p:=by
  unfold gr at h
  cases hq:ar.eqb p ⟨0,0,0⟩ with
  | true =>
    exfalso; apply h0
    unfold ar.eqb at hq
    simp at hq; exact hq.2.2
  | false =>
    rw [hq] at h
    simp only [cond_false] at h
    cases hb:(((((decide (p.fFrame < 0)) || (decide (p.fFrame ≥ 16))) || (decide (p.fSlot < 0))) || (decide (p.fSlot ≥ 8))) || (!(cN p.fRights))) with
    | true=>rw [hb] at h; simp at h
    | false =>
      simp at hb
      obtain ⟨⟨⟨⟨h1,h2⟩,h3⟩,h4⟩,h5⟩:=hb
      exact .inr ⟨h1,h2,h3,h4,h5⟩
theorem tab_insert {ps:List Pte} (h:px ps) (i:Int) (p:Pte):px (Table.insert ps i p).2:=by
  unfold Table.insert
  split
  · exact h
  · split
    · exact h
    · rename_i h1 _
      simp at h1
      exact tab_set h _ (put_fine h1.1 h1.2.1)
theorem tab_remove {ps:List Pte} (h:px ps) (i:Int):px (Table.remove ps i).2:=by
  unfold Table.remove
  split
  · exact h
  · split
    · exact h
    · exact tab_set h _ (.inl rfl)
theorem tab_protect {ps:List Pte} (h:px ps) (i r:Int):px (Table.protect ps i r).2:=by
  unfold Table.protect
  split
  · exact h
  · split
    · exact h
    · rename_i h1 h2
      simp at h1
      refine tab_set h _ (.inr ?_)
      rcases tab_at h i with e | e
      · rw [e] at h2; exact absurd rfl h2
      · exact ⟨e.1,e.2.1,e.2.2.1,e.2.2.2.1,h1.2⟩
theorem tab_unmaps:∀ (l:List Int) {ps:List Pte},px ps→px (PK.unmaps ps l)
  | [],_,h=>h
  | i::l,_,h=>tab_unmaps l (tab_remove h i)
theorem tab_of {k:PK} (ok:PK.Ok k) {n:Nat} (h:n < k.tabs.length):PK.tab k n = k.tabs[n]∧px k.tabs[n]:=by
  refine ⟨by simp [PK.tab,h],ok.tr _ (List.getElem_mem h)⟩
theorem tab_ok {k:PK} (ok:PK.Ok k) (e:Int) (h:e.toNat < k.tabs.length):px (PK.tab k e):=by
  have:PK.tab k e = k.tabs[e.toNat]:=by simp [PK.tab,h]
  rw [this]; exact ok.tr _ (List.getElem_mem h)
theorem tabs_set {k:PK} (ok:PK.Ok k) (e:Int) {ps:List Pte} (h:e.toNat < k.tabs.length→px ps):∀ qs ∈ k.tabs.set e.toNat ps,px qs:=by
  intro qs hq
  by_cases he:e.toNat < k.tabs.length
  · rcases List.mem_or_eq_of_mem_set hq with h1 | h1
    · exact ok.tr _ h1
    · subst h1; exact h he
  · rw [List.set_eq_of_length_le (by omega)] at hq; exact ok.tr _ hq
theorem ok_tabs {k:PK} (ok:PK.Ok k) (e:Int) {ps:List Pte} (h:e.toNat < k.tabs.length→px ps):PK.Ok { k with tabs:=k.tabs.set e.toNat ps } :=
  ⟨ok.sz,ok.ml,ok.mr,by simpa using ok.tl,tabs_set ok e h,ok.pl,ok.pr,ok.cl,ok.tree,ok.fine⟩
theorem pool_set {p:List Int} (h:∀ n ∈ p,0 ≤ n∧n ≤ 7) (i:Nat) {v:Int} (hv:0 ≤ v∧v ≤ 7):∀ n ∈ p.set i v,0 ≤ n∧n ≤ 7:=by
  intro n hn
  rcases List.mem_or_eq_of_mem_set hn with h1 | h1
  · exact h n h1
  · subst h1; exact hv
theorem refs_fine {p:List Int} (h:∀ n ∈ p,0 ≤ n∧n ≤ 7) (i:Int):0 ≤ Pool.refs p i∧Pool.refs p i ≤ 7:=by
  unfold Pool.refs
  split
  · omega
  · by_cases hi:i.toNat < p.length
    · simp [hi]; exact h _ (List.getElem_mem hi)
    · simp [List.getD_eq_getElem?_getD,List.getElem?_eq_none (Nat.le_of_not_lt hi)]
theorem lets_fine {p:List Int} (h:∀ n ∈ p,0 ≤ n∧n ≤ 7) (i:Int):(Pool.lets p i).2.2.length = p.length∧∀ n ∈ (Pool.lets p i).2.2,0 ≤ n∧n ≤ 7:=by
  have hr:=refs_fine h i
  unfold Pool.lets
  split
  · exact ⟨rfl,h⟩
  · refine ⟨by simp,pool_set h _ ?_⟩
    rw [wrapR (by omega) (by omega)]; omega
theorem hold_fine {p:List Int} (h:∀ n ∈ p,0 ≤ n∧n ≤ 7) (i:Int):(Pool.hold p i).2.length = p.length∧∀ n ∈ (Pool.hold p i).2,0 ≤ n∧n ≤ 7:=by
  have hr:=refs_fine h i
  unfold Pool.hold
  split
  · exact ⟨rfl,h⟩
  · refine ⟨by simp,pool_set h _ ?_⟩
    rw [wrapR (by omega) (by omega)]; omega
theorem take_fine {p:List Int} (h:∀ n ∈ p,0 ≤ n∧n ≤ 7):(Pool.take p).2.2.length = p.length∧∀ n ∈ (Pool.take p).2.2,0 ≤ n∧n ≤ 7:=by
  unfold Pool.take
  split
  · exact ⟨rfl,h⟩
  · exact ⟨by simp,pool_set h _ (by omega)⟩
theorem take_in {p:List Int} (h:(Pool.take p).2.1 = true):0 ≤ (Pool.take p).1∧(Pool.take p).1 < p.length:=by
  unfold Pool.take at h ⊢
  split at h
  · cases h
  · rename_i h1
    rw [if_neg h1]
    rcases idx_lt 0 p 0 with e | ⟨n,h2,e⟩
    · omega
    · simp only; omega
namespace Caps
theorem cf_root {n:Int} {t:T} {f:Int} (h0:0 ≤ f) (h1:f < n):CapFine n t ⟨f,3,-1,0⟩:=.inr (.inl ⟨rfl,rfl,rfl,h0,h1⟩)
theorem parent_has {t:T} (ok:Ok t) {e s:Int} (h:has t e s = true) (h1:(get t e s).fRights ≠ 0) (h2:0 ≤ (get t e s).fEnv):has t (get t e s).fEnv (get t e s).fSlot = true∧(get t (get t e s).fEnv (get t e s).fSlot).fRights ≠ 0:=by
  obtain ⟨rank,hr⟩:=ok.rk
  exact ⟨(hr e s h h1 h2).1,(hr e s h h1 h2).2.1⟩
theorem fine_put {n:Int} {t:T} (ok:Ok t) (F:fx n t) {e s:Int} (h:has t e s = true) (h0:(get t e s).fRights = 0) {c:Cap} (hc:CapFine n t c) (hc2:0 ≤ c.fEnv→has t c.fEnv c.fSlot = true∧(get t c.fEnv c.fSlot).fRights ≠ 0):fx n (put t e s c):=by
  intro a b hab
  rw [tW] at hab
  have keep:∀ {i j:Int},has t i j = true→(get t i j).fRights ≠ 0→get (put t e s c) i j = get t i j:=by
    intro i j hij hn
    rw [wV ok.row h hij,if_neg]
    rintro ⟨rfl,rfl⟩; exact hn h0
  rw [wV ok.row h hab]
  split
  · rcases hc with e1 | e1 | e1
    · exact .inl e1
    · exact .inr (.inl e1)
    · obtain ⟨p1,p2⟩:=hc2 e1.1
      exact .inr (.inr ⟨e1.1,e1.2.1,e1.2.2.1,by rw [keep p1 p2]; exact e1.2.2.2.1,by rw [keep p1 p2]; exact e1.2.2.2.2⟩)
  · rcases F a b hab with e1 | e1 | e1
    · exact .inl e1
    · exact .inr (.inl e1)
    · have hm:=(vR e1.2.2.2.1).1
      obtain ⟨p1,p2⟩:=parent_has ok hab (by omega) e1.1
      exact .inr (.inr ⟨e1.1,e1.2.1,e1.2.2.1,by rw [keep p1 p2]; exact e1.2.2.2.1,by rw [keep p1 p2]; exact e1.2.2.2.2⟩)
theorem fine_empties {n:Int} {t:T} (ok:Ok t) (F:fx n t) {l:List dl} (hl:∀ p ∈ l,has t p.fEnv p.fSlot = true)
    (cl:∀ e s,has t e s = true→(get t e s).fRights ≠ 0→0 ≤ (get t e s).fEnv→(⟨(get t e s).fEnv,(get t e s).fSlot⟩:dl) ∈ l→(⟨e,s⟩:dl) ∈ l):fx n (empties t l):=by
  intro a b hab
  rw [empties_has] at hab
  rw [qM l t ok.row hl a b hab]
  split
  · exact .inl rfl
  · rename_i hm
    rcases F a b hab with e1 | e1 | e1
    · exact .inl e1
    · exact .inr (.inl e1)
    · have hmy:=(vR e1.2.2.2.1).1
      obtain ⟨p1,p2⟩:=parent_has ok hab (by omega) e1.1
      have hp:(⟨(get t a b).fEnv,(get t a b).fSlot⟩:dl) ∉ l:=fun h=>hm (cl a b hab (by omega) e1.1 h)
      have hg:=qM l t ok.row hl _ _ p1
      rw [if_neg hp] at hg
      exact .inr (.inr ⟨e1.1,e1.2.1,e1.2.2.1,by rw [hg]; exact e1.2.2.2.1,by rw [hg]; exact e1.2.2.2.2⟩)
theorem below_closed {t:T} (ok:Ok t) (e s:Int):∀ a b,has t a b = true→(get t a b).fRights ≠ 0→0 ≤ (get t a b).fEnv→(⟨(get t a b).fEnv,(get t a b).fSlot⟩:dl) ∈ below t e s→(⟨a,b⟩:dl) ∈ below t e s:=by
  intro a b hab hne hen hp
  have h1:=(mem_below ok).1 hp
  refine (mem_below ok).2 ⟨hab,hne,?_⟩
  rw [under_step ok hab,if_pos ⟨hne,hen⟩]
  split
  · rfl
  · exact h1.2.2
theorem own_closed {t:T} (ok:Ok t) (e s:Int):∀ a b,has t a b = true→(get t a b).fRights ≠ 0→0 ≤ (get t a b).fEnv→(⟨(get t a b).fEnv,(get t a b).fSlot⟩:dl) ∈ own t e s→(⟨a,b⟩:dl) ∈ own t e s:=by
  intro a b hab hne hen hp
  have h1:=(mem_own ok).1 hp
  refine (mem_own ok).2 ⟨hab,hne,.inr ?_⟩
  rw [under_step ok hab,if_pos ⟨hne,hen⟩]
  split
  · rfl
  · rename_i hno
    rcases h1.2.2 with h | h
    · exact absurd ⟨congrArg aR.fEnv h,congrArg aR.fSlot h⟩ hno
    · exact h
theorem fine_revoke {n:Int} {t:T} (ok:Ok t) (F:fx n t) (e s:Int):fx n (revoke t e s).2:=by
  unfold revoke; split
  · exact F
  · exact fine_empties ok F (fun p hp=>((mem_below ok).1 hp).1) (below_closed ok e s)
theorem fine_drop {n:Int} {t:T} (ok:Ok t) (F:fx n t) (e s:Int):fx n (drop t e s).2:=by
  unfold drop; split
  · exact F
  · exact fine_empties ok F (fun p hp=>((mem_own ok).1 hp).1) (own_closed ok e s)
theorem fine_rootc {n:Int} {t:T} (ok:Ok t) (F:fx n t) (e s:Int) {f:Int} (h1:f < n) (h0:0 ≤ f):fx n (root t e s f).2:=by
  unfold root; split
  · exact F
  · split
    · exact F
    · rename_i c1 c2
      simp at c1
      exact fine_put ok F c1.1 (by simpa using c2) (cf_root h0 h1) (fun h=>absurd h (by show ¬ (0:Int) ≤ -1; omega))
theorem fine_derive {n:Int} {t:T} (ok:Ok t) (F:fx n t) (e src to dst r:Int):fx n (derive t e src to dst r).2:=by
  unfold derive
  split
  · exact F
  · split
    · exact F
    · split
      · exact F
      · split
        · exact F
        · rename_i h1 h2 h3 h4
          simp at h1
          have hw:bu r (get t e src).fRights = true:=by simpa using h4
          have hf:0 ≤ (get t e src).fFrame∧(get t e src).fFrame < n:=by
            rcases F e src h1.1 with e1 | e1 | e1
            · rw [e1] at h2; exact absurd rfl h2
            · exact ⟨e1.2.2.2.1,e1.2.2.2.2⟩
            · exact ⟨e1.2.1,e1.2.2.1⟩
          have h0:0 ≤ e:=by
            obtain ⟨a,b,rfl,_,_,_⟩:=has_nat h1.1
            omega
          exact fine_put ok F h1.2.1 (by simpa using h3) (.inr (.inr ⟨h0,hf.1,hf.2,hw,rfl⟩)) (fun _=>⟨h1.1,h2⟩)
theorem root_len (t:T) (e s f:Int):(root t e s f).2.length = t.length:=by
  unfold root; split
  · rfl
  · split
    · rfl
    · exact put_len _ _ _ _
theorem derive_len (t:T) (e src to dst r:Int):(derive t e src to dst r).2.length = t.length:=by
  unfold derive; repeat' split
  all_goals first | rfl | exact put_len _ _ _ _
theorem revoke_len (t:T) (e s:Int):(revoke t e s).2.length = t.length:=by
  unfold revoke; split
  · rfl
  · exact qL _ _
theorem drop_len (t:T) (e s:Int):(drop t e s).2.length = t.length:=by
  unfold drop; split
  · rfl
  · exact qL _ _
end Caps
theorem put_row16 {m:List (List Int)} (h:∀ r ∈ m,r.length = 16) (i:Nat) {r:List Int} (hr:i < m.length→r.length = 16):∀ q ∈ m.set i r,q.length = 16:=by
  intro q hq
  by_cases hi:i < m.length
  · rcases List.mem_or_eq_of_mem_set hq with h1 | h1
    · exact h q h1
    · subst h1; exact hr hi
  · rw [List.set_eq_of_length_le (by omega)] at hq; exact h q hq
theorem mput {m:List (List Int)} (h:∀ r ∈ m,r.length = 16) (f a v:Int):(Mem.put m f a v).length = m.length∧∀ r ∈ Mem.put m f a v,r.length = 16:=by
  refine ⟨by simp [Mem.put],put_row16 h _ fun hi=>?_⟩
  simp [hi]; exact h _ (List.getElem_mem hi)
theorem mstore {m:List (List Int)} (h:∀ r ∈ m,r.length = 16) (f a v:Int):(Mem.store m f a v).2.length = m.length∧∀ r ∈ (Mem.store m f a v).2,r.length = 16:=by
  unfold Mem.store; split
  · exact mput h f a v
  · exact ⟨rfl,h⟩
theorem mcas {m:List (List Int)} (h:∀ r ∈ m,r.length = 16) (f a o v:Int):(Mem.cas m f a o v).2.length = m.length∧∀ r ∈ (Mem.cas m f a o v).2,r.length = 16:=by
  unfold Mem.cas; split
  · exact mstore h f a v
  · exact ⟨rfl,h⟩
theorem madd {m:List (List Int)} (h:∀ r ∈ m,r.length = 16) (f a v:Int):(Mem.add m f a v).2.length = m.length∧∀ r ∈ (Mem.add m f a v).2,r.length = 16:=by
  unfold Mem.add
  exact mstore h f a _
theorem mzero {m:List (List Int)} (h:∀ r ∈ m,r.length = 16) (f:Int):(Mem.zero m f).2.length = m.length∧∀ r ∈ (Mem.zero m f).2,r.length = 16:=by
  unfold Mem.zero; split
  · refine ⟨by simp,put_row16 h _ fun hi=>by simp⟩
  · exact ⟨rfl,h⟩
theorem ok_mem {k:PK} (ok:PK.Ok k) {m:List (List Int)} (h:m.length = k.m.length∧∀ r ∈ m,r.length = 16):PK.Ok { k with m:=m } :=
  ⟨ok.sz,by rw [← ok.ml,← h.1],h.2,ok.tl,ok.tr,ok.pl,ok.pr,ok.cl,ok.tree,ok.fine⟩
theorem ok_touch {k:PK} (ok:PK.Ok k) (f:Int) (c:jE):PK.Ok (PK.touch k f c).2:=by
  unfold PK.touch
  split
  · exact ok
  · split
    · exact ok
    · split
      · exact ok_mem ok (mstore ok.mr _ _ _)
      · split
        · exact ok_mem ok (mcas ok.mr _ _ _ _)
        · exact ok_mem ok (madd ok.mr _ _ _)
theorem ok_alloc {k:PK} (ok:PK.Ok k) (e s:Int):PK.Ok (PK.alloc k e s).2:=by
  unfold PK.alloc
  split
  · exact ok
  · split
    · exact ok
    · rename_i h
      have ht:=take_in (by simpa using h)
      have h1:=take_fine ok.pr
      have h2:=mzero ok.mr (Pool.take k.pool).1
      refine ⟨ok.sz,by rw [← ok.ml,← h2.1],h2.2,ok.tl,ok.tr,by rw [← ok.pl,← h1.1],h1.2,by rw [← ok.cl]; simp only [Caps.root_len],Caps.ok_root ok.tree _ _ _,?_⟩
      exact Caps.fine_rootc ok.tree ok.fine _ _ (by rw [← ok.pl]; exact ht.2) ht.1
theorem ok_derive {k:PK} (ok:PK.Ok k) (e src to dst r:Int):PK.Ok (PK.derive k e src to dst r).2:=by
  have o1:=Caps.ok_derive ok.tree e src to dst r
  have f1:=Caps.fine_derive ok.tree ok.fine e src to dst r
  unfold PK.derive
  split
  · exact ok
  · split
    · exact ⟨ok.sz,ok.ml,ok.mr,ok.tl,ok.tr,ok.pl,ok.pr,by rw [← ok.cl]; simp only [Caps.drop_len,Caps.derive_len],Caps.ok_drop o1 _ _,Caps.fine_drop o1 f1 _ _⟩
    · have h1:=hold_fine ok.pr (Caps.at_ (Caps.derive k.caps e src to dst r).2 to dst).1.fFrame
      exact ⟨ok.sz,ok.ml,ok.mr,ok.tl,ok.tr,by rw [← ok.pl,← h1.1],h1.2,by rw [← ok.cl]; simp only [Caps.derive_len],o1,f1⟩
theorem ok_gone:∀ (l:List dl) {k:PK} (_:PK.Ok k) (f:Int),PK.Ok (PK.gone k f l)
  | [],_,ok,_=>ok
  | p::l,k,ok,f=>by
    have h1:=lets_fine ok.pr f
    have h2:=ok_tabs ok p.fEnv (ps:=PK.unmap (PK.tab k p.fEnv) p.fSlot) (fun h=>tab_unmaps _ (tab_ok ok _ h))
    have h3:PK.Ok { k with tabs:=k.tabs.set p.fEnv.toNat (PK.unmap (PK.tab k p.fEnv) p.fSlot),pool:=(Pool.lets k.pool f).2.2 } :=
      ⟨h2.sz,h2.ml,h2.mr,h2.tl,h2.tr,by rw [← ok.pl]; exact congrArg Int.ofNat h1.1,h1.2,h2.cl,h2.tree,h2.fine⟩
    exact ok_gone l h3 f
theorem ok_caps {k:PK} (ok:PK.Ok k) {t:Caps.T} (h:t.length = k.caps.length) (o:Caps.Ok t) (f:fx k.s.fFrames t):PK.Ok { k with caps:=t } :=
  ⟨ok.sz,ok.ml,ok.mr,ok.tl,ok.tr,ok.pl,ok.pr,by rw [← ok.cl,← h],o,f⟩
theorem ok_revoke {k:PK} (ok:PK.Ok k) (e s:Int) (w:Bool):PK.Ok (PK.revoke k e s w).2:=by
  have o1:=Caps.ok_revoke ok.tree e s
  have f1:=Caps.fine_revoke ok.tree ok.fine e s
  unfold PK.revoke
  split
  · exact ok
  · split
    · exact ok_gone _ (ok_caps ok (by rw [Caps.drop_len,Caps.revoke_len]) (Caps.ok_drop o1 _ _) (Caps.fine_drop o1 f1 _ _)) _
    · exact ok_gone _ (ok_caps ok (by rw [Caps.revoke_len]) o1 f1) _
theorem ok_maps {k:PK} (ok:PK.Ok k) (e pg s r:Int):PK.Ok (PK.maps k e pg s r).2:=by
  unfold PK.maps
  repeat' split
  all_goals first | exact ok | exact ok_tabs ok e fun h=>tab_insert (tab_ok ok _ h) _ _
theorem ok_protect {k:PK} (ok:PK.Ok k) (e pg r:Int):PK.Ok (PK.protect k e pg r).2:=by
  unfold PK.protect
  repeat' split
  all_goals first | exact ok | exact ok_tabs ok e fun h=>tab_protect (tab_ok ok _ h) _ _
theorem ok_remove {k:PK} (ok:PK.Ok k) (e pg:Int):PK.Ok (PK.remove k e pg).2:=ok_tabs ok e fun h=>tab_remove (tab_ok ok _ h) _
theorem ok_user {k:PK} (ok:PK.Ok k) (e:Int) (c:jE):PK.Ok (PK.user k e c).2:=by
  unfold PK.user
  split
  · exact ok
  · exact ok_touch ok _ _
theorem ok_does {k:PK} (ok:PK.Ok k) (e:Int) (c:jE):PK.Ok (PK.does k e c).2:=by
  unfold PK.does PK.errs
  repeat' split
  all_goals first | exact ok | exact ok_alloc ok _ _ | exact ok_derive ok _ _ _ _ _ | exact ok_revoke ok _ _ _ | exact ok_maps ok _ _ _ _ | exact ok_remove ok _ _ | exact ok_protect ok _ _ _ | exact ok_user ok _ _
theorem ok_do {k:PK} (ok:PK.Ok k) (e:Int) (c:jE):PK.Ok (PK.do_ k e c).2:=by
  unfold PK.do_
  split
  · exact ok
  · split
    · exact ok
    · exact ok_does ok e c
end Go.Proofs.YtniiiakkdoiaiaaGreatDoor
namespace Go.Proofs.YtniiiakkdoiaiaaGreatDoor
open Go Mb
theorem mid_eq (lo hi:Nat) (h:lo + hi < 2 ^ 62):IntKind.i64.wrap (Int.fdiv (IntKind.u64.wrap (IntKind.i64.wrap ((lo:Int) + (hi:Int)))) (2 ^ (min (Int.toNat 1) (IntKind.bits .u64)))) = (((lo + hi) / 2:Nat):Int):=by
  have e0:IntKind.i64.wrap ((lo:Int) + (hi:Int)) = ((lo + hi:Nat):Int):=by rw [cf (by omega) (by omega)]; rfl
  have e1:IntKind.u64.wrap ((lo + hi:Nat):Int) = ((lo + hi:Nat):Int):=by
    simp only [IntKind.wrap]; first | omega | (simp [IntKind.bits,IntKind.signed]; omega)
  have e2:(2:Int) ^ (min (Int.toNat 1) (IntKind.bits .u64)) = 2:=by decide
  rw [e0,e1,e2,Int.fdiv_eq_ediv_of_nonneg _ (by decide)]
  have e3:((lo + hi:Nat):Int) / 2 = (((lo + hi) / 2:Nat):Int):=by omega
  rw [e3,cf (by omega) (by omega)]
structure PlaceIn (xs:List Int) (a:Int) (i:Nat):Prop where
  le:i ≤ xs.length
  lo:∀ k (h:k < xs.length),k < i→xs[k] < a
  hi:∀ k (h:k < xs.length),i ≤ k→a ≤ xs[k]
theorem less_eq (x y:Int):hZ x y = decide (x < y):=by
  unfold hZ
  simp [dx]
theorem sp_BinarySearch (s:Sl) (xs:List Int) (a:Int) (hb:xs.length < 2 ^ 60) (hs:∀ i j (hi:i < xs.length) (hj:j < xs.length),i < j→xs[i] ≤ xs[j]) :
    Sp Tryz.prog eJ [sv s,.int .u64 a] bW [vU s xs] (fun r=>pa_ (∃ i,PlaceIn xs a i∧r = ((i:Int),decide (xs[i]? = some a))) [vU s xs]):=by
  intro h s0
  have hl:=(cq (j:=0) s0 rfl).1
  refine lI _ _ ?_
  unfold gA
  refine Lp.intro (fun (z:Int × Int) h=>∃ lo hi:Nat,z = ((lo:Int),(hi:Int))∧lo ≤ hi∧hi ≤ xs.length∧(∀ k (h:k < xs.length),k < lo→xs[k] < a)∧(∀ k (h:k < xs.length),hi ≤ k→a ≤ xs[k])∧aP [vU s xs] h) (fun (z:Int × Int) _=>(z.2 - z.1).toNat)
    ⟨0,xs.length,by rw [hl]; rfl,Nat.zero_le _,Nat.le_refl _,fun k h h'=>by omega,fun k h h'=>by omega,s0⟩ ?_
  rintro z h ⟨lo,hi,rfl,h1,h2,h3,h4,s1⟩
  unfold eF
  refine bk (fun k=>?_) (fun k=>?_)
  · have hlt:lo < hi:=by have:=of_decide_eq_true k; simp at this; exact this
    have hm:=mid_eq lo hi (by omega)
    simp only [hm]
    have hml:(lo + hi) / 2 < xs.length:=by omega
    refine dE s1 (j:=0) rfl (by omega) (by omega) fun q hq=>?_
    refine eC (j:=0) (i:=(lo + hi) / 2) (k:=0) xs[(lo + hi) / 2] (dk _) s1 rfl hq (by rw [Int.toNat_natCast]; rfl) (aO hml) (by simp) ?_
    rw [less_eq]
    refine bk (fun k2=>?_) (fun k2=>?_)
    · have k2':xs[(lo + hi) / 2] < a:=by simpa using k2
      have hw:IntKind.i64.wrap ((((lo + hi) / 2:Nat):Int) + 1) = (((lo + hi) / 2 + 1:Nat):Int):=by rw [cf (by omega) (by omega)]; rfl
      rw [hw]
      refine ⟨⟨(lo + hi) / 2 + 1,hi,rfl,by omega,h2,fun k hk hk'=>?_,h4,s1⟩,?_⟩
      · by_cases e:k = (lo + hi) / 2
        · subst e; exact k2'
        · have:=hs k _ hk hml (by omega); omega
      · show ((hi:Int) - (((lo + hi) / 2 + 1:Nat):Int)).toNat < ((hi:Int) - (lo:Int)).toNat
        omega
    · have k2':¬ xs[(lo + hi) / 2] < a:=by simpa using k2
      refine ⟨⟨lo,(lo + hi) / 2,rfl,by omega,by omega,h3,fun k hk hk'=>?_,s1⟩,?_⟩
      · by_cases e:k = (lo + hi) / 2
        · subst e; omega
        · have:=hs _ k hml hk (by omega); omega
      · show ((((lo + hi) / 2:Nat):Int) - (lo:Int)).toNat < ((hi:Int) - (lo:Int)).toNat
        omega
  · have hlt:lo = hi:=by have:=of_decide_eq_false k; simp at this; omega
    subst hlt
    have hp:PlaceIn xs a lo:=⟨h2,h3,h4⟩
    refine bk (fun k2=>?_) (fun k2=>?_)
    · have hlt:lo < xs.length:=by rw [hl] at k2; simpa using k2
      refine dE s1 (j:=0) rfl (by omega) (by show (lo:Int) < _; omega) fun q hq=>?_
      refine eC (j:=0) (i:=lo) (k:=0) xs[lo] (dk _) s1 rfl hq (by simp) (aO hlt) (by simp) ?_
      refine bk (fun k3=>?_) (fun k3=>?_)
      · have k3':¬ xs[lo] = a:=by simpa using k3
        refine eC (j:=0) (i:=lo) (k:=0) xs[lo] (dk _) s1 rfl hq (by simp) (aO hlt) (by simp) ?_
        exact bi ⟨lo,hp,by simp [dI,hlt,k3']⟩ s1
      · have k3':xs[lo] = a:=by simpa using k3
        exact bi ⟨lo,hp,by simp [hlt,k3']⟩ s1
    · have hlt:¬ lo < xs.length:=by rw [hl] at k2; simpa using k2
      exact bi ⟨lo,hp,by simp [List.getElem?_eq_none (Nat.le_of_not_lt hlt)]⟩ s1
def sub (m:Nat) (s:Sl) (lo hi:Nat):Sl:=⟨if s.cap = lo then s.a else s.a.map (fun q=>(q.1,q.2 + lo * m)),hi - lo,s.cap - lo,none⟩
theorem pa_map (p:Ptr) (n:Nat):(pa p).map (·.add n) = pa (p.map fun q=>(q.1,q.2 + n)):=by
  cases p with
  | none=>rfl
  | some q=>simp [pa,add_plain]
theorem slice_raw {P:Program} {h:Hp} {S T m bys:Nat} {z:List Value} {s:Sl} {lo hi:Nat} {vlo vhi:Option Value} {R:Sl→Value} {K:Sl→Hp→Prop} (E:El P S T m bys z) (hR:R = sv)
    (hlo:vlo = some (.int .i64 lo)∨vlo = none∧lo = 0) (hhi:vhi = some (.int .i64 hi)∨vhi = none∧hi = s.len) (h1:lo ≤ hi) (h2:hi ≤ s.cap) (k:K (sub m s lo hi) h):hpv P (Instr.sliceAt S (sv s) vlo vhi none) R K h:=by
  subst hR
  refine ⟨?_⟩
  obtain ⟨inf,hinf,e1,e2,e3⟩:=E.inf
  unfold Instr.sliceAt
  refine cz (dp E.sl ?_)
  show hp P (Instr.slice S (sv s) _ _ _) _ _
  unfold Instr.slice
  refine cz (dp E.sl ?_)
  simp only [sv]
  refine cz ?_
  unfold Instr.sliceBounds
  have fin:∀ hh:Hp,hh = h→hp P (do let size ← sizeOf T; pure (Value.slice (if s.cap = lo then pa s.a else (pa s.a).map (·.add (lo * size))) (hi - lo) (s.cap - lo))) (fun v h'=>∃ r,v = sv r∧K r h') hh:=by
    rintro _ rfl
    refine cz (nK hinf ?_)
    rw [e1]
    refine ⟨sub m s lo hi,?_,k⟩
    unfold sub sv
    split
    · rfl
    · rw [pa_map]
  rcases hhi with rfl | ⟨rfl,rfl⟩
  · refine cz (cz (cz ?_))
    unfold Instr.sliceBound
    refine cz (sV ?_)
    refine hp_yes ⟨by omega,by omega⟩ ?_
    rcases hlo with rfl | ⟨rfl,rfl⟩
    · refine cz (cz (sV ?_))
      refine hp_yes ⟨by omega,by omega⟩ ?_
      exact fin h rfl
    · exact fin h rfl
  · refine cz (cz ?_)
    rcases hlo with rfl | ⟨rfl,rfl⟩
    · refine cz ?_
      unfold Instr.sliceBound
      refine cz (sV ?_)
      refine hp_yes ⟨by omega,by omega⟩ ?_
      exact fin h rfl
    · exact fin h rfl
end Go.Proofs.YtniiiakkdoiaiaaGreatDoor
namespace Go.Proofs.YtniiiakkdoiaiaaGreatDoor
open Go Mb
set_option linter.unusedVariables false
def sh_mail_New (a0:Int) (K:Ptr→Hp→Prop):Hp→Prop:=br ((decide (a0 < 1)) || (decide (a0 > 8))) ( K none) ( hpv Tryz.prog (Instr.makeSlice pF (.int .i64 a0) (.int .i64 a0)) R_SSuint64 fun (v10:Sl)=>nw kR (nQ.C (⟨v10⟩:nQ)) fun b12=>K (some (b12,0)))
set_option maxRecDepth 20000 in
theorem sim_mail_New (a0:Int) {K:Ptr→Hp→Prop} {h:Hp} (H:sh_mail_New a0 K h):Ct Tryz.prog sR #[(.int .i64 a0)] h fun v h'=>∃ r,v = oO r∧K r h':=aD [(.int .i64 a0)] Tryz.func61 rfl rfl rfl fun _=>ah<|ac<|aa (ag rfl) rfl<|ae<|ah<|ah<|ac<|aa (ad rfl) rfl<|aa (cx rfl rfl) rfl<|aa (ad rfl) rfl<|aj rfl rfl rfl (aS _) (fun g1=>wv (ad rfl)) rfl<|aj rfl rfl rfl (aS _) (fun g2=>wv (oQ (aJ rfl g2) rfl)) rfl<|aa (dr rfl rfl) rfl<|ae<|aC rfl H (fun k3 H4=>ah<|ac<|aa (ag rfl) rfl<|ae<|ao<|aw (az rfl (aE rfl)) ⟨none,rfl,H4⟩) (fun k3 H4=>av<|ah<|ac<|aa (ad rfl) rfl<|ak (be H4 (jF rfl rfl) rfl fun v10 _ H5=>aa (bo rfl (build_137_0 v10)) rfl<|ak (hH rfl rfl rfl H5 fun b12 _ H6=>aa (ag rfl) rfl<|ae<|ao<|aw (az rfl (aE rfl)) ⟨(some (b12,0)),rfl,H6⟩)))
def sh_mail_Mail_is (a0:Ptr) (a1:Int) (K:Bool→Hp→Prop):Hp→Prop:=br ((!a0.isNone) && (decide (a1 ≥ 0))) ( nn a0 fun q14=>ld (q14.1,q14.2 + 0) cS fun x16=>K (decide (a1 < (x16.len:Int)))) ( K false)
set_option maxRecDepth 20000 in
theorem sim_mail_Mail_is (a0:Ptr) (a1:Int) {K:Bool→Hp→Prop} {h:Hp} (H:sh_mail_Mail_is a0 a1 K h):Ct Tryz.prog lp #[(pv a0),(.int .i64 a1)] h fun v h'=>∃ r,v = aK r∧K r h':=aD [(pv a0),(.int .i64 a1)] Tryz.func123 rfl rfl rfl fun _=>ah<|ac<|aa (ag rfl) rfl<|ae<|ah<|ac<|aa (ad rfl) rfl<|aa (v_pneT Tryz.underlying95 rfl) rfl<|aa (ad rfl) rfl<|aj rfl rfl rfl (aA _) (fun g1=>wv (ad rfl)) rfl<|aj rfl rfl rfl (aA _) (fun g2=>wv (gz (aJ rfl g2) rfl)) rfl<|aa (bU rfl rfl) rfl<|aa (ad rfl) rfl<|aj rfl rfl rfl (aA _) (fun g3=>wv (ad rfl)) rfl<|aj rfl rfl rfl (aA _) (fun g4=>wv (ad rfl)) rfl<|cc H (fun k6 H7=>bQ H7 fun q14 e8 H9=>aL rfl rfl rfl (congrArg Value.bool k6) (aQ (wv (aV (aW (aJ rfl k6) (ax e8)))) rfl<|aL rfl rfl rfl (congrArg Value.bool k6) (aQ (wv (an lW rfl)) rfl<|aL rfl rfl rfl (congrArg Value.bool k6) (bg H9 kU rfl (fun _=>rfl) rfl fun x16 H10=>aL rfl rfl rfl (congrArg Value.bool k6) (aQ (wv (dB rfl Tryz.underlying135 rfl)) rfl<|aL rfl rfl rfl (congrArg Value.bool k6) (aQ (wv (cx (aJ rfl k6) rfl)) rfl<|aa (bd rfl k6 rfl) rfl<|aa (ag rfl) rfl<|ae<|ao<|aw (az rfl (aE rfl)) ⟨(decide (a1 < (x16.len:Int))),rfl,H10⟩)))))) (fun k6 H7=>am rfl rfl rfl (bc k6) rfl<|am rfl rfl rfl (bc k6) rfl<|am rfl rfl rfl (bc k6) rfl<|am rfl rfl rfl (bc k6) rfl<|am rfl rfl rfl (bc k6) rfl<|aa (ay rfl k6 rfl) rfl<|aa (ag rfl) rfl<|ae<|ao<|aw (az rfl (aE rfl)) ⟨false,rfl,H7⟩)
def tJ (a0:Ptr) (a1:Int) (a2:Int) (a3:Int) (K:Bool→Hp→Prop):Hp→Prop:=cl Tryz.prog lp [(pv a0),(.int .i64 a1)] aK fun r13=>br (!(!r13)) ( cl Tryz.prog lp [(pv a0),(.int .i64 a2)] aK fun r18=>br ((!r18) || (a1 == a2)) ( K false) ( nn a0 fun q28=>ld (q28.1,q28.2 + 0) cS fun x30=>ix x30 a2 fun q32=>ld (q32.1,q32.2 + Int.toNat a2 * 1) cS fun x33=>cl Tryz.prog eJ [(sv x33),(.int .u64 a3)] bW fun r35=>br (!r35.2) ( ld (q28.1,q28.2 + 0) cS fun x48=>ix x48 a2 fun q50=>ld (q50.1,q50.2 + Int.toNat a2 * 1) cS fun x51=>both ( ld (q28.1,q28.2 + 0) cS fun x43=>hpv Tryz.prog (Instr.buildSlice bq 1 #[(0,(.int .u64 a3))]) cn fun (v54:Sl)=>cl Tryz.prog dF [(sv x51),(.int .i64 r35.1),(sv v54)] cn fun r55=>ix x43 a2 fun q56=>st (q56.1,q56.2 + Int.toNat a2 * 1) [sv r55]<|K true) ( hpv Tryz.prog (Instr.buildSlice bq 1 #[(0,(.int .u64 a3))]) cn fun (v54:Sl)=>both ( ld (q28.1,q28.2 + 0) cS fun x43=>cl Tryz.prog dF [(sv x51),(.int .i64 r35.1),(sv v54)] cn fun r55=>ix x43 a2 fun q56=>st (q56.1,q56.2 + Int.toNat a2 * 1) [sv r55]<|K true) ( cl Tryz.prog dF [(sv x51),(.int .i64 r35.1),(sv v54)] cn fun r55=>ld (q28.1,q28.2 + 0) cS fun x43=>ix x43 a2 fun q56=>st (q56.1,q56.2 + Int.toNat a2 * 1) [sv r55]<|K true))) ( K true))) ( K false)
set_option maxRecDepth 20000 in
theorem sim_mail_Mail_Send (a0:Ptr) (a1:Int) (a2:Int) (a3:Int) {K:Bool→Hp→Prop} {h:Hp} (H:tJ a0 a1 a2 a3 K h):Ct Tryz.prog pK #[(pv a0),(.int .i64 a1),(.int .i64 a2),(.int .u64 a3)] h fun v h'=>∃ r,v = aK r∧K r h':=aD [(pv a0),(.int .i64 a1),(.int .i64 a2),(.int .u64 a3)] Tryz.func105 rfl rfl rfl fun _=>ah<|ac<|aa (ag rfl) rfl<|ae<|ah<|ah<|ac<|aa (ad rfl) rfl<|aa (ad rfl) rfl<|ak (aB H en_123 rfl rfl fun r13 _ H1=>aa (cD rfl) rfl<|aa (ad rfl) rfl<|aj rfl rfl rfl (aS _) (fun g2=>wv (ad rfl)) rfl<|aj rfl rfl rfl (aS _) (fun g3=>wv (ad rfl)) rfl<|cc H1 (fun k5 H6=>aL rfl rfl rfl (congrArg Value.bool (cm k5)) (aB H6 en_123 (ba (aJ rfl k5) (ba (aJ rfl k5) bY)) rfl fun r18 _ H7=>aL rfl rfl rfl (congrArg Value.bool (cm k5)) (aQ (wv (cD rfl)) rfl<|aa (ay rfl (cm k5) rfl) rfl<|aa (ad rfl) rfl<|aj rfl rfl rfl (aS _) (fun g8=>wv (ad rfl)) rfl<|aj rfl rfl rfl (aS _) (fun g9=>wv (ad rfl)) rfl<|aj rfl rfl rfl (aS _) (fun g10=>wv (bV (aJ rfl g10) (aJ rfl g10))) rfl<|aa (dr rfl rfl) rfl<|ae<|aC rfl H7 (fun k11 H12=>ah<|ac<|aa (ag rfl) rfl<|ae<|ao<|aw (az rfl (aE rfl)) ⟨false,rfl,H12⟩) (fun k11 H12=>av<|ah<|ah<|ac<|aa (ad rfl) rfl<|bQ H12 fun q28 e13 H14=>aa (aV (aW rfl (ax e13))) rfl<|aa (an lW rfl) rfl<|ak (bg H14 kU rfl (fun _=>rfl) rfl fun x30 H15=>aa (ad rfl) rfl<|cw H15 fun q32 e16 h17 H18=>aa (bD lH (aW rfl (bn e16)) rfl h17) rfl<|ak (bg H18 sc_80 rfl (fun _=>rfl) rfl fun x33 H19=>aa (ad rfl) rfl<|ak (aB H19 en_152 rfl rfl fun r35 _ H20=>aa (ad rfl) rfl<|aa (aq rfl rfl) rfl<|aa (aq rfl rfl) rfl<|aa (ag rfl) rfl<|aa (ag rfl) rfl<|ae<|ah<|ac<|aa (ad rfl) rfl<|aa (cD rfl) rfl<|ae<|aC rfl H20 (fun k21 H22=>bC (n:=18) [] cy rfl .slnil<|ai (i:=0) (fun _ _ _ _=>id) rfl (by kernel_rfl) rfl (ve (ad (aW rfl (ax e13))))<|ai (i:=1) (fun _ _ _ _=>id) rfl (by kernel_rfl) rfl (ve (aV rfl))<|ai (i:=2) (fun _ _ _ _=>id) rfl (by kernel_rfl) rfl (ve (an lW rfl))<|ai (i:=4) (fun _ _ _ _=>id) rfl (by kernel_rfl) rfl (ve (ad rfl))<|ai (i:=5) (fun _ _ _ _=>id) rfl (by kernel_rfl) rfl (ve (ad (aW rfl (ax e13))))<|ai (i:=6) (fun _ _ _ _=>id) rfl (by kernel_rfl) rfl (ve (aV rfl))<|ai (i:=7) (fun _ _ _ _=>id) rfl (by kernel_rfl) rfl (ve (an lW rfl))<|ai (i:=9) (fun _ _ _ _=>id) rfl (by kernel_rfl) rfl (ve (ad rfl))<|ai (i:=12) (fun _ _ _ _=>id) rfl (by kernel_rfl) rfl (ve (ad rfl))<|ai (i:=13) (fun _ _ _ _=>id) rfl (by kernel_rfl) rfl (ve (ad rfl))<|bR (i:=8) (fun _ _ _ _=>id) H22 rfl (by kernel_rfl) kU rfl (fun _=>rfl) rfl fun x48 H23=>fQ H23 fun q50 e24 h25 H26=>ai (i:=10) (fun _ _ _ _=>id) rfl (by kernel_rfl) rfl (ve (bD lH (aW rfl (bn e24)) rfl h25))<|bR (i:=11) (fun _ _ _ _=>id) H26 rfl (by kernel_rfl) sc_80 rfl (fun _=>rfl) rfl fun x51 H27=>jA H27 fun H28_1 H28_2=>jg (i:=3) (j:=14) (by kernel_rfl) (aI rfl rfl (bg H28_1 kU rfl (fun _=>rfl) rfl fun x43 H29=>⟨.slnil,bh (i:=14) (by kernel_rfl) (aI rfl rfl (be H29 (bJ (vs:=[(.int .u64 a3)]) rfl) rfl fun v54 _ H30=>⟨.slnil,bh (i:=15) (by kernel_rfl) (aI rfl rfl (aB H30 en_153 rfl rfl fun r55 _ H31=>⟨.slnil,fQ H31 fun q56 e32 h33 H34=>ai (i:=16) (fun _ _ _ _=>id) rfl (by kernel_rfl) rfl (ve (bD lH (aW rfl (bn e32)) rfl h33))<|bh (i:=17) (by kernel_rfl) (aI rfl rfl (dC inf_80 rfl rfl rfl rfl rfl H34 fun _ H35=>⟨.slnil,bf (by kernel_rfl)<|ah<|ac<|aa (ag rfl) rfl<|ae<|ao<|aw (az rfl (aE rfl)) ⟨true,rfl,H35⟩⟩))⟩))⟩))⟩)) (aI rfl rfl (be H28_2 (bJ (vs:=[(.int .u64 a3)]) rfl) rfl fun v54 _ H29=>⟨.slnil,jA H29 fun H30_1 H30_2=>jg (i:=3) (j:=15) (by kernel_rfl) (aI rfl rfl (bg H30_1 kU rfl (fun _=>rfl) rfl fun x43 H31=>⟨.slnil,bh (i:=15) (by kernel_rfl) (aI rfl rfl (aB H31 en_153 rfl rfl fun r55 _ H32=>⟨.slnil,fQ H32 fun q56 e33 h34 H35=>ai (i:=16) (fun _ _ _ _=>id) rfl (by kernel_rfl) rfl (ve (bD lH (aW rfl (bn e33)) rfl h34))<|bh (i:=17) (by kernel_rfl) (aI rfl rfl (dC inf_80 rfl rfl rfl rfl rfl H35 fun _ H36=>⟨.slnil,bf (by kernel_rfl)<|ah<|ac<|aa (ag rfl) rfl<|ae<|ao<|aw (az rfl (aE rfl)) ⟨true,rfl,H36⟩⟩))⟩))⟩)) (aI rfl rfl (aB H30_2 en_153 rfl rfl fun r55 _ H31=>⟨.slnil,bR (i:=3) (fun _ _ _ _=>id) H31 rfl (by kernel_rfl) kU rfl (fun _=>rfl) rfl fun x43 H32=>fQ H32 fun q56 e33 h34 H35=>ai (i:=16) (fun _ _ _ _=>id) rfl (by kernel_rfl) rfl (ve (bD lH (aW rfl (bn e33)) rfl h34))<|bh (i:=17) (by kernel_rfl) (aI rfl rfl (dC inf_80 rfl rfl rfl rfl rfl H35 fun _ H36=>⟨.slnil,bf (by kernel_rfl)<|ah<|ac<|aa (ag rfl) rfl<|ae<|ao<|aw (az rfl (aE rfl)) ⟨true,rfl,H36⟩⟩))⟩))⟩))) (fun k21 H22=>av<|ah<|ac<|aa (ag rfl) rfl<|ae<|ao<|aw (az rfl (aE rfl)) ⟨true,rfl,H22⟩)))))))) (fun k5 H6=>am rfl rfl rfl (ci (bN k5)) rfl<|am rfl rfl rfl (ci (bN k5)) rfl<|aa (bd rfl (bN k5) rfl) rfl<|aa (ad rfl) rfl<|am rfl rfl rfl rfl rfl<|am rfl rfl rfl rfl rfl<|am rfl rfl rfl rfl rfl<|aa (bd rfl rfl rfl) rfl<|ae<|lz rfl rfl<|ah<|ac<|aa (ag rfl) rfl<|ae<|ao<|aw (az rfl (aE rfl)) ⟨false,rfl,H6⟩))
def pP (a1:Int) (a2:Int) (K:Int→Hp→Prop) (q12:Nat × Nat) (x14:Sl) (Rec7:(Int × Int)→Hp→Prop) (s6:Int × Int):Hp→Prop:=br (decide (s6.2 < (x14.len:Int))) ( cl Tryz.prog pK [(.pointer (some ⟨q12.1,q12.2,none⟩)),(.int .i64 a1),(.int .i64 s6.2),(.int .u64 a2)] aK fun r23=>br r23 ( Rec7 ((IntKind.i64.wrap (s6.1 + 1)),(IntKind.i64.wrap (s6.2 + 1)))) ( Rec7 (s6.1,(IntKind.i64.wrap (s6.2 + 1))))) ( K s6.1)
def uW (a0:Ptr) (a1:Int) (a2:Int) (K:Int→Hp→Prop):Hp→Prop:=br a0.isNone ( K 0) ( nn a0 fun q12=>ld (q12.1,q12.2 + 0) cS fun x14=>Lp (pP a1 a2 K q12 x14) (0,0))
set_option maxRecDepth 20000 in
theorem sim_mail_Mail_All (a0:Ptr) (a1:Int) (a2:Int) {K:Int→Hp→Prop} {h:Hp} (H:uW a0 a1 a2 K h):Ct Tryz.prog mU #[(pv a0),(.int .i64 a1),(.int .u64 a2)] h fun v h'=>∃ r,v = dO r∧K r h':=aD [(pv a0),(.int .i64 a1),(.int .u64 a2)] Tryz.func71 rfl rfl rfl fun _=>ah<|ac<|aa (ag rfl) rfl<|ae<|ah<|ah<|ac<|aa (ad rfl) rfl<|aa (cA Tryz.underlying95 rfl) rfl<|ae<|aC rfl H (fun k1 H2=>ah<|ac<|aa (ag rfl) rfl<|ae<|ao<|aw (az rfl (aE rfl)) ⟨0,rfl,H2⟩) (fun k1 H2=>av<|ah<|ac<|aa (ag rfl) rfl<|ae<|ah<|ah<|ac<|aa (ad rfl) rfl<|bQ H2 fun q12 e3 H4=>aa (aV (aW rfl (ax e3))) rfl<|aa (an lW rfl) rfl<|ak (bg H4 kU rfl (fun _=>rfl) rfl fun x14 H5=>aa (dB rfl Tryz.underlying135 rfl) rfl<|aa (ad rfl) rfl<|ae<|aF<|bO (step:=pP a1 a2 K q12 x14) (fun s6=>[(0,(pv a0)),(1,(.int .i64 a1)),(2,(.int .u64 a2)),(7,(.int .i64 s6.1)),(15,(.int .i64 (x14.len:Int))),(16,(.int .i64 s6.2))]) (fun s6=>[]) H5 (.cons rfl (.cons rfl (.cons rfl (.cons rfl (.cons rfl (.cons rfl (.nil _))))))) .slnil (fun Rec7 s6 _ H8=>ah<|ac<|aa (cx rfl rfl) rfl<|ae<|ah<|aC rfl H8 (fun k9 H10=>av<|ah<|aF<|ah<|ac<|aa (ad rfl) rfl<|aa (ag rfl) rfl<|ae<|ah<|ac<|aa (ad (aW rfl (ax e3))) rfl<|aa (ad rfl) rfl<|aa (ad rfl) rfl<|aa (ad rfl) rfl<|ak (aB H10 en_105 rfl rfl fun r23 _ H11=>ae<|aC rfl H11 (fun k12 H13=>ac<|aa (ad rfl) rfl<|aa (bI rfl rfl) rfl<|aa (ag rfl) rfl<|ae<|ac<|aa (bI rfl rfl) rfl<|aa (ad rfl) rfl<|ae<|cT ((IntKind.i64.wrap (s6.1 + 1)),(IntKind.i64.wrap (s6.2 + 1))) H13 (.cons rfl (.cons rfl (.cons rfl (.cons rfl (.cons rfl (.cons rfl (.nil _))))))) .slnil) (fun k12 H13=>av<|ac<|aa (bI rfl rfl) rfl<|aa (ad rfl) rfl<|ae<|cT (s6.1,(IntKind.i64.wrap (s6.2 + 1))) H13 (.cons rfl (.cons rfl (.cons rfl (.cons rfl (.cons rfl (.cons rfl (.nil _))))))) .slnil))) (fun k9 H10=>bA<|ah<|ac<|aa (ad rfl) rfl<|aa (ag rfl) rfl<|ae<|ao<|aw (az rfl (aE rfl)) ⟨s6.1,rfl,H10⟩))))
def sB (a0:Ptr) (a1:Int) (K:Int→Hp→Prop):Hp→Prop:=cl Tryz.prog lp [(pv a0),(.int .i64 a1)] aK fun r7=>br (!r7) ( K 0) ( nn a0 fun q10=>ld (q10.1,q10.2 + 0) cS fun x12=>ix x12 a1 fun q14=>ld (q14.1,q14.2 + Int.toNat a1 * 1) cS fun x15=>K (x15.len:Int))
set_option maxRecDepth 20000 in
theorem sim_mail_Mail_Waits (a0:Ptr) (a1:Int) {K:Int→Hp→Prop} {h:Hp} (H:sB a0 a1 K h):Ct Tryz.prog kK #[(pv a0),(.int .i64 a1)] h fun v h'=>∃ r,v = dO r∧K r h':=aD [(pv a0),(.int .i64 a1)] Tryz.func83 rfl rfl rfl fun _=>ah<|ac<|aa (ag rfl) rfl<|ae<|ah<|ah<|ac<|aa (ad rfl) rfl<|aa (ad rfl) rfl<|ak (aB H en_123 rfl rfl fun r7 _ H1=>aa (cD rfl) rfl<|ae<|aC rfl H1 (fun k2 H3=>ah<|ac<|aa (ag rfl) rfl<|ae<|ao<|aw (az rfl (aE rfl)) ⟨0,rfl,H3⟩) (fun k2 H3=>av<|ah<|ac<|aa (ad rfl) rfl<|bQ H3 fun q10 e4 H5=>aa (aV (aW rfl (ax e4))) rfl<|aa (an lW rfl) rfl<|ak (bg H5 kU rfl (fun _=>rfl) rfl fun x12 H6=>aa (ad rfl) rfl<|cw H6 fun q14 e7 h8 H9=>aa (bD lH (aW rfl (bn e7)) rfl h8) rfl<|ak (bg H9 sc_80 rfl (fun _=>rfl) rfl fun x15 H10=>aa (dB rfl Tryz.underlying80 rfl) rfl<|aa (ag rfl) rfl<|ae<|ao<|aw (az rfl (aE rfl)) ⟨(x15.len:Int),rfl,H10⟩))))
def tI (a0:Ptr) (a1:Int) (K:(Int × Bool)→Hp→Prop):Hp→Prop:=cl Tryz.prog kK [(pv a0),(.int .i64 a1)] dO fun r9=>br (r9 == 0) ( K (0,false)) ( nn a0 fun q12=>ld (q12.1,q12.2 + 0) cS fun x14=>ix x14 a1 fun q16=>ld (q16.1,q16.2 + Int.toNat a1 * 1) cS fun x17=>ix x17 0 fun q18=>ld (q18.1,q18.2 + Int.toNat 0 * 1) (cI .u64) fun x19=>ld (q12.1,q12.2 + 0) cS fun x28=>ix x28 a1 fun q30=>ld (q30.1,q30.2 + Int.toNat a1 * 1) cS fun x31=>both ( ld (q12.1,q12.2 + 0) cS fun x23=>hpv Tryz.prog (Instr.sliceAt bq (sv x31) (some (.int .i64 1)) none none) cn fun (v32:Sl)=>ix x23 a1 fun q33=>st (q33.1,q33.2 + Int.toNat a1 * 1) [sv v32]<|K (x19,true)) ( hpv Tryz.prog (Instr.sliceAt bq (sv x31) (some (.int .i64 1)) none none) cn fun (v32:Sl)=>ld (q12.1,q12.2 + 0) cS fun x23=>ix x23 a1 fun q33=>st (q33.1,q33.2 + Int.toNat a1 * 1) [sv v32]<|K (x19,true)))
set_option maxRecDepth 20000 in
theorem sim_mail_Mail_Take (a0:Ptr) (a1:Int) {K:(Int × Bool)→Hp→Prop} {h:Hp} (H:tI a0 a1 K h):Ct Tryz.prog lP #[(pv a0),(.int .i64 a1)] h fun v h'=>∃ r,v = bT r∧K r h':=aD [(pv a0),(.int .i64 a1)] Tryz.func75 rfl rfl rfl fun _=>ah<|ac<|aa (ag rfl) rfl<|aa (ag rfl) rfl<|ae<|ah<|ah<|ac<|aa (ad rfl) rfl<|aa (ad rfl) rfl<|ak (aB H en_83 rfl rfl fun r9 _ H1=>aa (bV rfl rfl) rfl<|ae<|aC rfl H1 (fun k2 H3=>ah<|ac<|aa (ag rfl) rfl<|aa (ag rfl) rfl<|ae<|ao<|aw (ce rfl (aE rfl) (aE rfl)) ⟨(0,false),rfl,H3⟩) (fun k2 H3=>av<|ah<|ac<|aa (ad rfl) rfl<|bQ H3 fun q12 e4 H5=>aa (aV (aW rfl (ax e4))) rfl<|aa (an lW rfl) rfl<|ak (bg H5 kU rfl (fun _=>rfl) rfl fun x14 H6=>aa (ad rfl) rfl<|cw H6 fun q16 e7 h8 H9=>aa (bD lH (aW rfl (bn e7)) rfl h8) rfl<|ak (bg H9 sc_80 rfl (fun _=>rfl) rfl fun x17 H10=>cw H10 fun q18 e11 h12 H13=>aa (bD wg (aW rfl (bn e11)) rfl h12) rfl<|ak (bg H13 cE rfl (fun _=>rfl) rfl fun x19 H14=>aa (ag rfl) rfl<|ae<|ah<|bC (n:=15) [] cy rfl .slnil<|ai (i:=0) (fun _ _ _ _=>id) rfl (by kernel_rfl) rfl (ve (ad (aW rfl (ax e4))))<|ai (i:=1) (fun _ _ _ _=>id) rfl (by kernel_rfl) rfl (ve (aV rfl))<|ai (i:=2) (fun _ _ _ _=>id) rfl (by kernel_rfl) rfl (ve (an lW rfl))<|ai (i:=4) (fun _ _ _ _=>id) rfl (by kernel_rfl) rfl (ve (ad rfl))<|ai (i:=5) (fun _ _ _ _=>id) rfl (by kernel_rfl) rfl (ve (ad (aW rfl (ax e4))))<|ai (i:=6) (fun _ _ _ _=>id) rfl (by kernel_rfl) rfl (ve (aV rfl))<|ai (i:=7) (fun _ _ _ _=>id) rfl (by kernel_rfl) rfl (ve (an lW rfl))<|ai (i:=9) (fun _ _ _ _=>id) rfl (by kernel_rfl) rfl (ve (ad rfl))<|bR (i:=8) (fun _ _ _ _=>id) H14 rfl (by kernel_rfl) kU rfl (fun _=>rfl) rfl fun x28 H15=>fQ H15 fun q30 e16 h17 H18=>ai (i:=10) (fun _ _ _ _=>id) rfl (by kernel_rfl) rfl (ve (bD lH (aW rfl (bn e16)) rfl h17))<|bR (i:=11) (fun _ _ _ _=>id) H18 rfl (by kernel_rfl) sc_80 rfl (fun _=>rfl) rfl fun x31 H19=>jA H19 fun H20_1 H20_2=>jg (i:=3) (j:=12) (by kernel_rfl) (aI rfl rfl (bg H20_1 kU rfl (fun _=>rfl) rfl fun x23 H21=>⟨.slnil,bh (i:=12) (by kernel_rfl) (aI rfl rfl (be H21 (eL rfl rfl rfl rfl rfl) rfl fun v32 _ H22=>⟨.slnil,fQ H22 fun q33 e23 h24 H25=>ai (i:=13) (fun _ _ _ _=>id) rfl (by kernel_rfl) rfl (ve (bD lH (aW rfl (bn e23)) rfl h24))<|bh (i:=14) (by kernel_rfl) (aI rfl rfl (dC inf_80 rfl rfl rfl rfl rfl H25 fun _ H26=>⟨.slnil,bf (by kernel_rfl)<|ah<|ac<|aa (ad rfl) rfl<|aa (ag rfl) rfl<|aa (ag rfl) rfl<|ae<|ao<|aw (ce rfl (aE rfl) (aE rfl)) ⟨(x19,true),rfl,H26⟩⟩))⟩))⟩)) (aI rfl rfl (be H20_2 (eL rfl rfl rfl rfl rfl) rfl fun v32 _ H21=>⟨.slnil,bR (i:=3) (fun _ _ _ _=>id) H21 rfl (by kernel_rfl) kU rfl (fun _=>rfl) rfl fun x23 H22=>fQ H22 fun q33 e23 h24 H25=>ai (i:=13) (fun _ _ _ _=>id) rfl (by kernel_rfl) rfl (ve (bD lH (aW rfl (bn e23)) rfl h24))<|bh (i:=14) (by kernel_rfl) (aI rfl rfl (dC inf_80 rfl rfl rfl rfl rfl H25 fun _ H26=>⟨.slnil,bf (by kernel_rfl)<|ah<|ac<|aa (ad rfl) rfl<|aa (ag rfl) rfl<|aa (ag rfl) rfl<|ae<|ao<|aw (ce rfl (aE rfl) (aE rfl)) ⟨(x19,true),rfl,H26⟩⟩))⟩)))))))
end Go.Proofs.YtniiiakkdoiaiaaGreatDoor
namespace Go.Proofs.YtniiiakkdoiaiaaGreatDoor
open Go Mb
theorem us (s y:Sl) (xs:List Int) (a:Int) (hl:xs.length < 2 ^ 40) :
    Sp Tryz.prog dF [sv s,.int .i64 xs.length,sv y] cn [vU s xs,vU y [a]] (fun r=>vU r (xs++[a])):=by
  intro h s0
  have hs:=(cq (j:=0) s0 rfl).1
  have hy:=(cq (j:=1) s0 rfl).1
  have hcap:s.len ≤ s.cap:=star_fact (i:=0) rfl (fun _ hv=>hv.2.1) s0
  refine oR _ _ _ ?_
  unfold jr
  refine slice_raw (lo:=xs.length) (hi:=s.len) fR rfl (.inl rfl) (.inr ⟨rfl,rfl⟩) (by omega) hcap ?_
  refine dJ (by rw [hy]; rfl) ?_
  refine dW (by rw [hs]; simp) ?_
  refine tn (τ:=Int) (i:=0) (j:=1) (enc:=cI .u64) (ys:=[a]) fR fR.sl (dk _) (oneI _) s0 rfl rfl (by omega) (by simp; omega) (by simp; omega) fun v h2 s2=>?_
  obtain ⟨h3,h4,d,rfl,a2,_⟩:=s2
  obtain ⟨e1,e2,e3⟩:=a2
  refine ⟨e1,e2,?_⟩
  rcases e3 with e3 | ⟨b,pre,rest,U,fr,f1,f2,fg,f3⟩
  · exact .inl e3
  · exact .inr ⟨b,pre,rest,U,fr,f1,f2,fg,un_left f3⟩
def jd (x:Ptr) (bs:List (List Int)):As:=fun h=>∃ z:Nat × Sl × List Sl,(x = some (z.1,0)∧z.2.2.length = bs.length∧bs.length ≤ 8)∧aP [blk z.1 kR [sv z.2.1],vec bq 1 cS z.2.1 z.2.2,all vU z.2.2 bs] h
theorem mail_op {x:Ptr} {bs:List (List Int)} {l:List As} {h:Hp} (s0:aP (jd x bs::l) h):∃ b s ss,x = some (b,0)∧ss.length = bs.length∧bs.length ≤ 8∧s.len = bs.length∧aP (blk b kR [sv s]::vec bq 1 cS s ss::all vU ss bs::l) h:=by
  obtain ⟨⟨b,s,ss⟩,⟨hx,h1,h2⟩,st⟩:=op_ s0
  exact ⟨b,s,ss,hx,h1,h2,(cq (j:=1) st rfl).1.trans h1,st⟩
theorem mail_cl {b:Nat} {s:Sl} {ss:List Sl} {bs:List (List Int)} {l:List As} {h:Hp} (h1:ss.length = bs.length) (h2:bs.length ≤ 8) (st:aP (blk b kR [sv s]::vec bq 1 cS s ss::all vU ss bs::l) h):aP (jd (some (b,0)) bs::l) h :=
  cl_ (m:=fun z:Nat × Sl × List Sl=>[blk z.1 kR [sv z.2.1],vec bq 1 cS z.2.1 z.2.2,all vU z.2.2 bs]) (b,s,ss) ⟨rfl,h1,h2⟩ st
namespace Mail
abbrev S:=List (List Int)
def has (bs:S) (c:Int):Bool:=decide (0 ≤ c∧c < bs.length)
def box (bs:S) (c:Int):List Int:=bs.getD c.toNat []
def send (bs:S) (f t e:Int):Bool × S:=if has bs f = true∧has bs t = true∧f ≠ t then (true,bs.set t.toNat (box bs t++[e])) else (false,bs)
def sends (bs:S) (f e:Int):Nat→Int × S
  | 0=>(0,bs)
  | n + 1=>if (send (sends bs f e n).2 f n e).1 then ((sends bs f e n).1 + 1,(send (sends bs f e n).2 f n e).2) else ((sends bs f e n).1,(send (sends bs f e n).2 f n e).2)
def waits (bs:S) (c:Int):Int:=if has bs c then (box bs c).length else 0
def take (bs:S) (c:Int):(Int × Bool) × S:=if waits bs c = 0 then ((0,false),bs) else (((box bs c).getD 0 0,true),bs.set c.toNat ((box bs c).drop 1))
structure Fit (l:List Int) (e:Int):Prop where
  lt:∀ x ∈ l,x < e
  up:l.Pairwise (· < ·)
  len:l.length < 2 ^ 40
theorem send_len (bs:S) (f t e:Int):(send bs f t e).2.length = bs.length:=by unfold send; split <;> simp
theorem sends_len (bs:S) (f e:Int):∀ n,(sends bs f e n).2.length = bs.length
  | 0=>rfl
  | n + 1=>by unfold sends; split <;> simp only [send_len,sends_len bs f e n]
theorem send_other (bs:S) (f e:Int) (n m:Nat) (h:n ≠ m):(send bs f n e).2[m]? = bs[m]?:=by
  unfold send; split
  · simp only [Int.toNat_natCast]; rw [List.getElem?_set_ne h]
  · rfl
theorem sends_ge (bs:S) (f e:Int):∀ n m,n ≤ m→(sends bs f e n).2[m]? = bs[m]?
  | 0,_,_=>rfl
  | n + 1,m,h=>by unfold sends; split <;> simp only <;> rw [send_other _ _ _ _ _ (by omega),sends_ge bs f e n m (by omega)]
end Mail
theorem nils:∀ (n:Nat) {l:List As} {h:Hp},aP l h→aP (all vU (List.replicate n (⟨none,0,0,none⟩:Sl)) (List.replicate n ([]:List Int))::l) h
  | 0,_,_,s=>all_nil s
  | n + 1,l,h,s=>by
    have s1:=fI (τ:=Int) (T:=t_uint64) (m:=1) (enc:=cI .u64) (nils n s)
    rw [List.replicate_succ,List.replicate_succ]
    obtain ⟨h1,h2,d,e,a,h3,h4,d2,e2,b,s'⟩:=s1
    subst e2
    obtain ⟨d3,d4⟩:=Dj.of_un_right d
    exact ⟨un h1 h3,h4,Dj.un_left d4 d2,by rw [e,mB],⟨h1,h3,d3,rfl,a,b⟩,s'⟩
theorem sp_mail_New (n:Int) (h1:¬ n < 1) (h2:¬ n > 8):Sp Tryz.prog sR [.int .i64 n] oO [] (fun r=>aP [jd r (List.replicate n.toNat [])]):=by
  intro h st
  refine sim_mail_New _ ?_
  unfold sh_mail_New
  obtain ⟨m,rfl⟩:=Int.eq_ofNat_of_zero_le (show 0 ≤ n by omega)
  refine dJ (by simp; omega) ?_
  refine nI (τ:=Sl) (x0:=⟨none,0,0,none⟩) (enc:=cS) (n:=m) (T:=bq) (m:=1) uj rfl st ?_ ?_ ?_
  · omega
  · omega
  · intro v h' s1
    have s2:=nils m s1
    refine oS s2 fun b h'' s3=>?_
    exact mail_cl (by simp) (by simp; omega) (bp [0,1] s3 rfl)
theorem sp_mail_is (x:Ptr) (bs:Mail.S) (c:Int):Sp Tryz.prog lp [pv x,.int .i64 c] aK [jd x bs] (fun r=>pa_ (r = Mail.has bs c) [jd x bs]):=by
  intro h s0
  obtain ⟨b,s,ss,rfl,hss,hb,hs,st⟩:=mail_op s0
  refine sim_mail_Mail_is _ _ ?_
  unfold sh_mail_Mail_is
  refine bk (fun k=>?_) (fun k=>?_)
  · have k':0 ≤ c:=by simpa using k
    refine cO (bB s st (i:=0) rfl rfl rfl ?_)
    exact bi (by simp [Mail.has,k',hs]) s0
  · have k':¬ 0 ≤ c:=by simpa using k
    exact bi (by simp [Mail.has]; intro h; exact absurd h k') s0
theorem has_nat {bs:Mail.S} {c:Int} (h:Mail.has bs c = true):∃ n:Nat,c = n∧n < bs.length:=by
  unfold Mail.has at h
  have:=of_decide_eq_true h
  exact ⟨c.toNat,by omega,by omega⟩
theorem place_end {l:List Int} {e:Int} (f:Mail.Fit l e) {i:Nat} (p:PlaceIn l e i):i = l.length:=by
  rcases Nat.lt_or_ge i l.length with h | h
  · have h1:=p.hi i h (Nat.le_refl _)
    have h2:=f.lt _ (List.getElem_mem h)
    omega
  · have:=p.le; omega
theorem sp_mail_Send (x:Ptr) (bs:Mail.S) (f t e:Int) (hf:∀ l,bs[t.toNat]? = some l→Mail.Fit l e):Sp Tryz.prog pK [pv x,.int .i64 f,.int .i64 t,.int .u64 e] aK [jd x bs] (fun r=>pa_ (r = (Mail.send bs f t e).1) [jd x (Mail.send bs f t e).2]):=by
  intro h s0
  refine sim_mail_Mail_Send _ _ _ _ ?_
  unfold tJ
  refine cW [0] (sp_mail_is x bs f) s0 rfl fun r h1 s1=>?_
  obtain ⟨rfl,s2⟩:=bF.1 s1
  have no:¬ (Mail.has bs f = true∧Mail.has bs t = true∧f ≠ t)→Mail.send bs f t e = (false,bs):=fun hh=>if_neg hh
  refine bk (fun k=>?_) (fun k=>?_)
  · have k':Mail.has bs f = true:=by simpa using k
    refine cW [0] (sp_mail_is x bs t) s2 rfl fun r h3 s3=>?_
    obtain ⟨rfl,s4⟩:=bF.1 s3
    refine bk (fun k2=>?_) (fun k2=>?_)
    · rw [no (by simp at k2; intro hh; rcases k2 with k2 | k2; exact absurd hh.2.1 (by simp [k2]); exact hh.2.2 k2)]
      exact bi rfl s4
    · have k2':Mail.has bs t = true∧f ≠ t:=by simpa using k2
      obtain ⟨n,rfl,hn⟩:=has_nat k2'.1
      have ed:Mail.send bs f n e = (true,bs.set n (Mail.box bs n++[e])):=if_pos ⟨k',k2'.1,k2'.2⟩
      rw [ed]
      obtain ⟨b,s,ss,rfl,hss,hb,hs,st⟩:=mail_op s4
      have hns:n < ss.length:=by omega
      have hg:Mail.box bs n = bs[n]:=by simp [Mail.box,hn]
      have fit:=hf bs[n] (by rw [Int.toNat_natCast]; exact aO hn)
      refine cO (bB s st (i:=0) rfl rfl rfl ?_)
      refine dE st (j:=1) rfl (by omega) (by omega) fun q hq=>?_
      refine eC (j:=1) (i:=n) (k:=0) ss[n] re st rfl hq (by simp) (aO hns) (by simp) ?_
      have st1:=jl (aO hns) (aO hn) (bp [2] st rfl)
      refine cW [0] (sp_BinarySearch ss[n] bs[n] e (by have:=fit.len; omega) (fun i j hi hj hij=>Int.le_of_lt (List.pairwise_iff_getElem.1 fit.up i j hi hj hij))) st1 rfl fun r h5 s5=>?_
      obtain ⟨⟨i,pi,hr⟩,s6⟩:=bF.1 s5
      have hi:=place_end fit pi
      subst hi
      have hr2:r.2 = false:=by rw [hr]; simp
      refine dW (by rw [hr2]; rfl) ?_
      refine bB s s6 (i:=2) rfl rfl rfl ?_
      refine dE s6 (j:=3) rfl (by omega) (by omega) fun q2 hq2=>?_
      refine eC (j:=3) (i:=n) (k:=0) ss[n] re s6 rfl hq2 (by simp) (aO hns) (by simp) ?_
      have fin:∀ (r55:Sl) (v54:Sl) (h:Hp),aP [vU r55 (bs[n]++[e]),but vU ss bs n,blk b kR [sv s],vec bq 1 cS s ss] h →
          ix s n (fun q56=>Mb.st (q56.1,q56.2 + Int.toNat n * 1) [sv r55]<|pa_ (true = true) [jd (some (b,0)) (bs.set n (bs[n]++[e]))]) h:=by
        intro r55 v54 h s7
        refine dE s7 (j:=3) rfl (by omega) (by omega) fun q3 hq3=>?_
        refine st_v (j:=3) (i:=n) (k:=0) r55 re s7 rfl hq3 (by simp) (aO hns) (by simp) rfl fun h8 s8=>?_
        have s9:=all_in2 (y:=bs[n]++[e]) hn hss s8
        exact bi rfl (mail_cl (by simpa using hss) (by simpa using hb) (bp [1,1] s9 rfl))
      rw [hg,hr]
      refine ⟨?_,?_⟩
      · refine bB s s6 (i:=2) rfl rfl rfl ?_
        refine fu (τ:=Int) [e] (val:=fun x=>.int .u64 x) (enc:=cI .u64) fR (dk _) (fun _=>rfl) s6 rfl rfl (by simp) fun y h' s7=>?_
        refine cW [1,0] (us ss[n] y bs[n] e fit.len) s7 rfl fun r h8 s8=>?_
        exact fin r y h8 s8
      · refine fu (τ:=Int) [e] (val:=fun x=>.int .u64 x) (enc:=cI .u64) fR (dk _) (fun _=>rfl) s6 rfl rfl (by simp) fun y h' s7=>?_
        refine ⟨?_,?_⟩
        · refine bB s s7 (i:=3) rfl rfl rfl ?_
          refine cW [1,0] (us ss[n] y bs[n] e fit.len) s7 rfl fun r h8 s8=>?_
          exact fin r y h8 s8
        · refine cW [1,0] (us ss[n] y bs[n] e fit.len) s7 rfl fun r h8 s8=>?_
          refine bB s s8 (i:=2) rfl rfl rfl ?_
          exact fin r y h8 s8
  · rw [no (by simp at k; simp [k])]
    exact bi rfl s2
theorem sp_mail_All (x:Ptr) (bs:Mail.S) (f e:Int) (hf:∀ l ∈ bs,Mail.Fit l e):Sp Tryz.prog mU [pv x,.int .i64 f,.int .u64 e] dO [jd x bs] (fun r=>pa_ (r = (Mail.sends bs f e bs.length).1) [jd x (Mail.sends bs f e bs.length).2]):=by
  intro h s0
  obtain ⟨b,s,ss,rfl,hss,hb,hs,st⟩:=mail_op s0
  refine sim_mail_Mail_All _ _ _ ?_
  unfold uW
  refine dJ rfl (cO (bB s st (i:=0) rfl rfl rfl ?_))
  refine Lp.intro (fun (z:Int × Int) h=>∃ n:Nat,z.2 = n∧n ≤ bs.length∧z.1 = (Mail.sends bs f e n).1∧0 ≤ z.1∧z.1 ≤ n∧aP [jd (some (b,0)) (Mail.sends bs f e n).2] h) (fun (z:Int × Int) _=>bs.length - z.2.toNat) ⟨0,rfl,Nat.zero_le _,rfl,Int.le_refl _,Int.le_refl _,s0⟩ ?_
  rintro ⟨z,i⟩ h ⟨n,rfl,hn,hz,hz0,hz1,s1⟩
  simp only at hz hz0 hz1
  unfold pP
  refine bk (fun k=>?_) (fun k=>?_)
  · have hlt:n < bs.length:=by rw [hs] at k; simpa using k
    have hw:IntKind.i64.wrap ((n:Int) + 1) = ((n + 1:Nat):Int):=by rw [cf (by omega) (by omega)]; rfl
    have hw2:IntKind.i64.wrap (z + 1) = z + 1:=cf (by omega) (by omega)
    refine cW [0] (sp_mail_Send (some (b,0)) (Mail.sends bs f e n).2 f n e ?_) s1 rfl fun r h2 s2=>?_
    · intro l hl
      rw [Int.toNat_natCast,Mail.sends_ge bs f e n n (Nat.le_refl _)] at hl
      exact hf l (List.mem_of_getElem? hl)
    obtain ⟨rfl,s3⟩:=bF.1 s2
    refine bk (fun k2=>?_) (fun k2=>?_)
    · have e1:Mail.sends bs f e (n + 1) = ((Mail.sends bs f e n).1 + 1,(Mail.send (Mail.sends bs f e n).2 f n e).2):=by rw [Mail.sends,if_pos k2]
      rw [hw,hw2]
      refine ⟨⟨n + 1,rfl,hlt,?_,by simp only; omega,by simp only; omega,?_⟩,by simp; omega⟩
      · rw [e1,hz]
      · rw [e1]; exact s3
    · have e1:Mail.sends bs f e (n + 1) = ((Mail.sends bs f e n).1,(Mail.send (Mail.sends bs f e n).2 f n e).2):=by rw [Mail.sends,if_neg (by rw [k2]; exact Bool.false_ne_true)]
      rw [hw]
      refine ⟨⟨n + 1,rfl,hlt,?_,by simp only; omega,by simp only; omega,?_⟩,by simp; omega⟩
      · rw [e1,hz]
      · rw [e1]; exact s3
  · have:n = bs.length:=by rw [hs] at k; simp at k; omega
    subst this
    exact bi hz s1
theorem sp_mail_Waits (x:Ptr) (bs:Mail.S) (c:Int):Sp Tryz.prog kK [pv x,.int .i64 c] dO [jd x bs] (fun r=>pa_ (r = Mail.waits bs c) [jd x bs]):=by
  intro h s0
  refine sim_mail_Mail_Waits _ _ ?_
  unfold sB
  refine cW [0] (sp_mail_is x bs c) s0 rfl fun r h1 s1=>?_
  obtain ⟨rfl,s2⟩:=bF.1 s1
  refine bk (fun k=>?_) (fun k=>?_)
  · have k':Mail.has bs c = false:=by simpa using k
    exact bi (by simp [Mail.waits,k']) s2
  · have k':Mail.has bs c = true:=by simpa using k
    obtain ⟨n,rfl,hn⟩:=has_nat k'
    obtain ⟨b,s,ss,rfl,hss,hb,hs,st⟩:=mail_op s2
    have hns:n < ss.length:=by omega
    refine cO (bB s st (i:=0) rfl rfl rfl ?_)
    refine dE st (j:=1) rfl (by omega) (by omega) fun q hq=>?_
    refine eC (j:=1) (i:=n) (k:=0) ss[n] re st rfl hq (by simp) (aO hns) (by simp) ?_
    have st1:=jl (aO hns) (aO hn) (bp [2] st rfl)
    have hl:=(cq (j:=0) st1 rfl).1
    exact bi (by simp [Mail.waits,k',Mail.box,hn,hl]) s2
theorem sp_mail_Take (x:Ptr) (bs:Mail.S) (c:Int):Sp Tryz.prog lP [pv x,.int .i64 c] bT [jd x bs] (fun r=>pa_ (r = (Mail.take bs c).1) [jd x (Mail.take bs c).2]):=by
  intro h s0
  refine sim_mail_Mail_Take _ _ ?_
  unfold tI
  refine cW [0] (sp_mail_Waits x bs c) s0 rfl fun r h1 s1=>?_
  obtain ⟨rfl,s2⟩:=bF.1 s1
  refine bk (fun k=>?_) (fun k=>?_)
  · have k':Mail.waits bs c = 0:=by simpa using k
    have e1:Mail.take bs c = ((0,false),bs):=if_pos k'
    rw [e1]
    exact bi rfl s2
  · have k':¬ Mail.waits bs c = 0:=by simpa using k
    have e1:Mail.take bs c = (((Mail.box bs c).getD 0 0,true),bs.set c.toNat ((Mail.box bs c).drop 1)):=if_neg k'
    rw [e1]
    have hh:Mail.has bs c = true:=by
      unfold Mail.waits at k'
      cases e:Mail.has bs c with
      | true=>rfl
      | false=>rw [e] at k'; exact absurd rfl k'
    obtain ⟨n,rfl,hn⟩:=has_nat hh
    obtain ⟨b,s,ss,rfl,hss,hb,hs,st⟩:=mail_op s2
    have hns:n < ss.length:=by omega
    have hg:Mail.box bs n = bs[n]:=by simp [Mail.box,hn]
    have h0:0 < bs[n].length:=by
      unfold Mail.waits at k'
      rw [hh,hg] at k'
      simp at k'
      exact List.length_pos_iff.2 k'
    rw [hg]
    refine cO (bB s st (i:=0) rfl rfl rfl ?_)
    refine dE st (j:=1) rfl (by omega) (by omega) fun q hq=>?_
    refine eC (j:=1) (i:=n) (k:=0) ss[n] re st rfl hq (by simp) (aO hns) (by simp) ?_
    have st1:=jl (aO hns) (aO hn) (bp [2] st rfl)
    refine dE st1 (j:=0) rfl (by omega) (by omega) fun q1 hq1=>?_
    refine eC (j:=0) (i:=0) (k:=0) bs[n][0] (dk _) st1 rfl hq1 (by simp) (aO h0) (by simp) ?_
    refine bB s st1 (i:=2) rfl rfl rfl ?_
    refine dE st1 (j:=3) rfl (by omega) (by omega) fun q2 hq2=>?_
    refine eC (j:=3) (i:=n) (k:=0) ss[n] re st1 rfl hq2 (by simp) (aO hns) (by simp) ?_
    have fin:∀ (v:Sl) (h:Hp),aP [vU v (bs[n].drop 1),but vU ss bs n,blk b kR [sv s],vec bq 1 cS s ss] h →
        ix s n (fun q33=>Mb.st (q33.1,q33.2 + Int.toNat n * 1) [sv v]<|pa_ ((bs[n][0],true) = ((bs[n].getD 0 0,true):Int × Bool)) [jd (some (b,0)) (bs.set n (bs[n].drop 1))]) h:=by
      intro v h s7
      refine dE s7 (j:=3) rfl (by omega) (by omega) fun q3 hq3=>?_
      refine st_v (j:=3) (i:=n) (k:=0) v re s7 rfl hq3 (by simp) (aO hns) (by simp) rfl fun h8 s8=>?_
      have s9:=all_in2 (y:=bs[n].drop 1) hn hss s8
      exact bi (by simp [h0]) (mail_cl (by simpa using hss) (by simpa using hb) (bp [1,1] s9 rfl))
    refine ⟨?_,?_⟩
    · refine bB s st1 (i:=2) rfl rfl rfl ?_
      refine sliceFrom_v (i:=0) (n:=1) fR (dk _) rfl st1 rfl h0 fun v s5=>?_
      exact fin v _ s5
    · refine sliceFrom_v (i:=0) (n:=1) fR (dk _) rfl st1 rfl h0 fun v s5=>?_
      refine bB s s5 (i:=2) rfl rfl rfl ?_
      exact fin v _ s5
end Go.Proofs.YtniiiakkdoiaiaaGreatDoor
namespace Go.Proofs.YtniiiakkdoiaiaaGreatDoor
open Go Mb
set_option linter.unusedVariables false
def sh_epoch_New (a0:Int) (K:Ptr→Hp→Prop):Hp→Prop:=br ((decide (a0 < 1)) || (decide (a0 > 8))) ( K none) ( hpv Tryz.prog (Instr.makeSlice bq (.int .i64 a0) (.int .i64 a0)) cn fun (v10:Sl)=>nw hO (jC.C (⟨(⟨none,0,0,none⟩:Sl),v10⟩:jC)) fun b12=>K (some (b12,0)))
set_option maxRecDepth 20000 in
theorem sim_epoch_New (a0:Int) {K:Ptr→Hp→Prop} {h:Hp} (H:sh_epoch_New a0 K h):Ct Tryz.prog nH #[(.int .i64 a0)] h fun v h'=>∃ r,v = iD r∧K r h':=aD [(.int .i64 a0)] Tryz.func62 rfl rfl rfl fun _=>ah<|ac<|aa (ag rfl) rfl<|ae<|ah<|ah<|ac<|aa (ad rfl) rfl<|aa (cx rfl rfl) rfl<|aa (ad rfl) rfl<|aj rfl rfl rfl (aS _) (fun g1=>wv (ad rfl)) rfl<|aj rfl rfl rfl (aS _) (fun g2=>wv (oQ (aJ rfl g2) rfl)) rfl<|aa (dr rfl rfl) rfl<|ae<|aC rfl H (fun k3 H4=>ah<|ac<|aa (ag rfl) rfl<|ae<|ao<|aw (az rfl (aE rfl)) ⟨none,rfl,H4⟩) (fun k3 H4=>av<|ah<|ac<|aa (ad rfl) rfl<|ak (be H4 (jF rfl rfl) rfl fun v10 _ H5=>aa (bo rfl (build_139_1 v10)) rfl<|ak (hH rfl rfl rfl H5 fun b12 _ H6=>aa (ag rfl) rfl<|ae<|ao<|aw (az rfl (aE rfl)) ⟨(some (b12,0)),rfl,H6⟩)))
def sF (a0:Ptr) (a1:Int) (K:Bool→Hp→Prop):Hp→Prop:=br ((!a0.isNone) && (decide (a1 ≥ 0))) ( nn a0 fun q14=>ld (q14.1,q14.2 + 1) cS fun x16=>K (decide (a1 < (x16.len:Int)))) ( K false)
set_option maxRecDepth 20000 in
theorem sim_epoch_Epochs_is (a0:Ptr) (a1:Int) {K:Bool→Hp→Prop} {h:Hp} (H:sF a0 a1 K h):Ct Tryz.prog kM #[(pv a0),(.int .i64 a1)] h fun v h'=>∃ r,v = aK r∧K r h':=aD [(pv a0),(.int .i64 a1)] Tryz.func103 rfl rfl rfl fun _=>ah<|ac<|aa (ag rfl) rfl<|ae<|ah<|ac<|aa (ad rfl) rfl<|aa (v_pneT Tryz.underlying97 rfl) rfl<|aa (ad rfl) rfl<|aj rfl rfl rfl (aA _) (fun g1=>wv (ad rfl)) rfl<|aj rfl rfl rfl (aA _) (fun g2=>wv (gz (aJ rfl g2) rfl)) rfl<|aa (bU rfl rfl) rfl<|aa (ad rfl) rfl<|aj rfl rfl rfl (aA _) (fun g3=>wv (ad rfl)) rfl<|aj rfl rfl rfl (aA _) (fun g4=>wv (ad rfl)) rfl<|cc H (fun k6 H7=>bQ H7 fun q14 e8 H9=>aL rfl rfl rfl (congrArg Value.bool k6) (aQ (wv (aV (aW (aJ rfl k6) (ax e8)))) rfl<|aL rfl rfl rfl (congrArg Value.bool k6) (aQ (wv (an fld_139_1 rfl)) rfl<|aL rfl rfl rfl (congrArg Value.bool k6) (bg H9 sc_80 rfl (fun _=>rfl) rfl fun x16 H10=>aL rfl rfl rfl (congrArg Value.bool k6) (aQ (wv (dB rfl Tryz.underlying80 rfl)) rfl<|aL rfl rfl rfl (congrArg Value.bool k6) (aQ (wv (cx (aJ rfl k6) rfl)) rfl<|aa (bd rfl k6 rfl) rfl<|aa (ag rfl) rfl<|ae<|ao<|aw (az rfl (aE rfl)) ⟨(decide (a1 < (x16.len:Int))),rfl,H10⟩)))))) (fun k6 H7=>am rfl rfl rfl (bc k6) rfl<|am rfl rfl rfl (bc k6) rfl<|am rfl rfl rfl (bc k6) rfl<|am rfl rfl rfl (bc k6) rfl<|am rfl rfl rfl (bc k6) rfl<|aa (ay rfl k6 rfl) rfl<|aa (ag rfl) rfl<|ae<|ao<|aw (az rfl (aE rfl)) ⟨false,rfl,H7⟩)
def ry (a0:Ptr) (K:Int→Hp→Prop):Hp→Prop:=br a0.isNone ( K 0) ( nn a0 fun q6=>ld (q6.1,q6.2 + 0) cS fun x8=>K (IntKind.u64.wrap (x8.len:Int)))
set_option maxRecDepth 20000 in
theorem sim_epoch_Epochs_Now (a0:Ptr) {K:Int→Hp→Prop} {h:Hp} (H:ry a0 K h):Ct Tryz.prog fO #[(pv a0)] h fun v h'=>∃ r,v = gH r∧K r h':=aD [(pv a0)] Tryz.func104 rfl rfl rfl fun _=>ah<|ac<|aa (ag rfl) rfl<|ae<|ah<|ah<|ac<|aa (ad rfl) rfl<|aa (cA Tryz.underlying97 rfl) rfl<|ae<|aC rfl H (fun k1 H2=>ah<|ac<|aa (ag rfl) rfl<|ae<|ao<|aw (az rfl (aE rfl)) ⟨0,rfl,H2⟩) (fun k1 H2=>av<|ah<|ac<|aa (ad rfl) rfl<|bQ H2 fun q6 e3 H4=>aa (aV (aW rfl (ax e3))) rfl<|aa (an fld_139_0 rfl) rfl<|ak (bg H4 sc_41 rfl (fun _=>rfl) rfl fun x8 H5=>aa (dB rfl Tryz.underlying41 rfl) rfl<|aa (eo ⟨_,Tryz.underlying3⟩ Tryz.underlying25 rfl) rfl<|aa (ag rfl) rfl<|ae<|ao<|aw (az rfl (aE rfl)) ⟨(IntKind.u64.wrap (x8.len:Int)),rfl,H5⟩))
def pq (a0:Ptr) (a1:Int) (K:(Int × Bool)→Hp→Prop):Hp→Prop:=cl Tryz.prog kM [(pv a0),(.int .i64 a1)] aK fun r8=>br (!r8) ( K (0,false)) ( nn a0 fun q12=>ld (q12.1,q12.2 + 0) cS fun x14=>hpv Tryz.prog (Instr.buildSlice dL 1 #[(0,(.int .i64 a1))]) cJ fun (v16:Sl)=>hpv Tryz.prog (Builtin.append_ #[dL,dL] dL #[(sv x14),(sv v16)]) cJ fun (v17:Sl)=>st (q12.1,q12.2 + 0) [sv v17]<|cl Tryz.prog fO [(.pointer (some ⟨q12.1,q12.2,none⟩))] gH fun r21=>K (r21,true))
set_option maxRecDepth 20000 in
theorem wx (a0:Ptr) (a1:Int) {K:(Int × Bool)→Hp→Prop} {h:Hp} (H:pq a0 a1 K h):Ct Tryz.prog iP #[(pv a0),(.int .i64 a1)] h fun v h'=>∃ r,v = bT r∧K r h':=aD [(pv a0),(.int .i64 a1)] Tryz.func70 rfl rfl rfl fun _=>ah<|ac<|aa (ag rfl) rfl<|aa (ag rfl) rfl<|ae<|ah<|ah<|ac<|aa (ad rfl) rfl<|aa (ad rfl) rfl<|ak (aB H en_103 rfl rfl fun r8 _ H1=>aa (cD rfl) rfl<|ae<|aC rfl H1 (fun k2 H3=>ah<|ac<|aa (ag rfl) rfl<|aa (ag rfl) rfl<|ae<|ao<|aw (ce rfl (aE rfl) (aE rfl)) ⟨(0,false),rfl,H3⟩) (fun k2 H3=>av<|ah<|ac<|aa (ad rfl) rfl<|aa (ad rfl) rfl<|bQ H3 fun q12 e4 H5=>aa (aV (aW rfl (ax e4))) rfl<|aa (an fld_139_0 rfl) rfl<|ak (bg H5 sc_41 rfl (fun _=>rfl) rfl fun x14 H6=>aa (ad rfl) rfl<|ak (be H6 (bJ (vs:=[(.int .i64 a1)]) rfl) rfl fun v16 _ H7=>ak (be H7 (dK rfl rfl) rfl fun v17 _ H8=>aa (aV (aW rfl (ax e4))) rfl<|aa (an fld_139_0 rfl) rfl<|ak (dC inf_41 rfl rfl rfl rfl rfl H8 fun _ H9=>ae<|ah<|ac<|aa (ad (aW rfl (ax e4))) rfl<|ak (aB H9 en_104 rfl rfl fun r21 _ H10=>aa (ag rfl) rfl<|aa (ag rfl) rfl<|ae<|ao<|aw (ce rfl (aE rfl) (aE rfl)) ⟨(r21,true),rfl,H10⟩)))))))
def dv (Rec13:(Sl × Int)→Hp→Prop) (s12:Sl × Int) (s21:Bool):Hp→Prop:=br s21 ( hpv Tryz.prog (Instr.buildSlice dL 1 #[(0,(.int .i64 s12.2))]) cJ fun (v43:Sl)=>hpv Tryz.prog (Builtin.append_ #[dL,dL] dL #[(sv s12.1),(sv v43)]) cJ fun (v44:Sl)=>Rec13 (v44,(IntKind.i64.wrap (s12.2 + 1)))) ( Rec13 (s12.1,(IntKind.i64.wrap (s12.2 + 1))))
def kE (a1:Int) (K:Sl→Hp→Prop) (q17:Nat × Nat) (x19:Sl) (Rec13:(Sl × Int)→Hp→Prop) (s12:Sl × Int):Hp→Prop:=br (decide (s12.2 < (x19.len:Int))) ( ix x19 s12.2 fun q24=>ld (q24.1,q24.2 + Int.toNat s12.2 * 1) (cI .u64) fun x25=>br (decide (x25 < a1)) ( ld (q17.1,q17.2 + 0) cS fun x33=>ix x33 (IntKind.u64.wrap (a1 - 1)) fun q36=>ld (q36.1,q36.2 + Int.toNat (IntKind.u64.wrap (a1 - 1)) * 1) (cI .i64) fun x37=>dv Rec13 s12 (x37 != s12.2)) ( dv Rec13 s12 false)) ( K s12.1)
def pn (a0:Ptr) (a1:Int) (K:Sl→Hp→Prop):Hp→Prop:=br (!(decide (a1 < 1))) ( cl Tryz.prog fO [(pv a0)] gH fun r13=>br (decide (a1 > r13)) ( K (⟨none,0,0,none⟩:Sl)) ( nn a0 fun q17=>ld (q17.1,q17.2 + 1) cS fun x19=>Lp (kE a1 K q17 x19) ((⟨none,0,0,none⟩:Sl),0))) ( K (⟨none,0,0,none⟩:Sl))
set_option maxRecDepth 20000 in
theorem ww (a0:Ptr) (a1:Int) {K:Sl→Hp→Prop} {h:Hp} (H:pn a0 a1 K h):Ct Tryz.prog iO #[(pv a0),(.int .u64 a1)] h fun v h'=>∃ r,v = cJ r∧K r h':=aD [(pv a0),(.int .u64 a1)] Tryz.func106 rfl rfl rfl fun _=>ah<|ac<|aa (ag rfl) rfl<|ae<|ah<|ah<|ac<|aa (ad rfl) rfl<|aa (cx rfl rfl) rfl<|aa (ad rfl) rfl<|aj rfl rfl rfl (aS _) (fun g1=>wv (ad rfl)) rfl<|aj rfl rfl rfl (aS _) (fun g2=>wv (ad rfl)) rfl<|cc H (fun k4 H5=>aL rfl rfl rfl (congrArg Value.bool (cm k4)) (aB H5 en_104 (ba (aJ rfl k4) bY) rfl fun r13 _ H6=>aL rfl rfl rfl (congrArg Value.bool (cm k4)) (aQ (wv (oQ (aJ rfl k4) rfl)) rfl<|aa (ay rfl (cm k4) rfl) rfl<|ae<|aC rfl H6 (fun k7 H8=>ah<|ac<|aa (ag rfl) rfl<|ae<|ao<|aw (az rfl (aE rfl)) ⟨(⟨none,0,0,none⟩:Sl),rfl,H8⟩) (fun k7 H8=>av<|ah<|ac<|aa (ag rfl) rfl<|ae<|ah<|ah<|ac<|aa (ad rfl) rfl<|bQ H8 fun q17 e9 H10=>aa (aV (aW rfl (ax e9))) rfl<|aa (an fld_139_1 rfl) rfl<|ak (bg H10 sc_80 rfl (fun _=>rfl) rfl fun x19 H11=>aa (dB rfl Tryz.underlying80 rfl) rfl<|aa (ad rfl) rfl<|ae<|aF<|bO (step:=kE a1 K q17 x19) (fun s12=>[(0,(pv a0)),(1,(.int .u64 a1)),(5,(sv s12.1)),(19,(sv x19)),(20,(.int .i64 (x19.len:Int))),(21,(.int .i64 s12.2))]) (fun s12=>[]) H11 (.cons rfl (.cons rfl (.cons rfl (.cons rfl (.cons rfl (.cons rfl (.nil _))))))) .slnil (fun Rec13 s12 _ H14=>ah<|ac<|aa (cx rfl rfl) rfl<|ae<|ah<|aC rfl H14 (fun k15 H16=>av<|ah<|aF<|ah<|ac<|aa (ad rfl) rfl<|cw H16 fun q24 e17 h18 H19=>aa (bD wg (aW rfl (bn e17)) rfl h18) rfl<|ak (bg H19 cE rfl (fun _=>rfl) rfl fun x25 H20=>aa (ag rfl) rfl<|aa (ag rfl) rfl<|ae<|eB (dv Rec13 s12) (fun s21=>[(0,(pv a0)),(1,(.int .u64 a1)),(5,(sv s12.1)),(6,(.int .i64 s12.2)),(19,(sv x19)),(20,(.int .i64 (x19.len:Int))),(21,(.int .i64 s12.2)),(40,(.bool s21))]) (fun s21=>[]) ( ac<|aa (ad rfl) rfl<|aa (ad rfl) rfl<|aa (cx rfl rfl) rfl<|aa (ad rfl) rfl<|aj rfl rfl rfl (aA _) (fun g27=>wv (ad (aW rfl (ax e9)))) rfl<|aj rfl rfl rfl (aA _) (fun g28=>wv (aV (aJ rfl g28))) rfl<|aj rfl rfl rfl (aA _) (fun g29=>wv (an fld_139_0 (aJ rfl g29))) rfl<|cc H20 (fun k31 H32=>aL rfl rfl rfl (congrArg Value.bool k31) (bg H32 sc_41 (aJ rfl k31) (fun _=>rfl) rfl fun x33 H33=>aL rfl rfl rfl (congrArg Value.bool k31) (aQ (wv (ad rfl)) rfl<|aL rfl rfl rfl (congrArg Value.bool k31) (aQ (wv (v_sub rfl rfl)) rfl<|cw H33 fun q36 e34 h35 H36=>aL rfl rfl rfl (congrArg Value.bool k31) (aQ (wv (bD iu (aW rfl (bn e34)) rfl h35)) rfl<|aL rfl rfl rfl (congrArg Value.bool k31) (bg H36 bj rfl (fun _=>rfl) rfl fun x37 H37=>aL rfl rfl rfl (congrArg Value.bool k31) (aQ (wv (ad rfl)) rfl<|aL rfl rfl rfl (congrArg Value.bool k31) (aQ (wv (qk rfl rfl)) rfl<|aa (bd rfl k31 rfl) rfl<|ae<|cF (x37 != s12.2) H37 (.cons rfl (.cons rfl (.cons rfl (.cons rfl (.cons rfl (.cons rfl (.cons rfl (.cons rfl (.nil _))))))))) .slnil)))))))) (fun k31 H32=>am rfl rfl rfl (bc k31) rfl<|am rfl rfl rfl (bc k31) rfl<|am rfl rfl rfl (bc k31) rfl<|am rfl rfl rfl (bc k31) rfl<|am rfl rfl rfl (bc k31) rfl<|am rfl rfl rfl (bc k31) rfl<|am rfl rfl rfl (bc k31) rfl<|aa (ay rfl k31 rfl) rfl<|ae<|cF false H32 (.cons rfl (.cons rfl (.cons rfl (.cons rfl (.cons rfl (.cons rfl (.cons rfl (.cons rfl (.nil _))))))))) .slnil)) (fun s21 _ H22=>aC rfl H22 (fun k23 H24=>ac<|aa (ad rfl) rfl<|aa (ad rfl) rfl<|ak (be H24 (bJ (vs:=[(.int .i64 s12.2)]) rfl) rfl fun v43 _ H25=>ak (be H25 (dK rfl rfl) rfl fun v44 _ H26=>aa (ag rfl) rfl<|ae<|ac<|aa (bI rfl rfl) rfl<|aa (ad rfl) rfl<|ae<|cT (v44,(IntKind.i64.wrap (s12.2 + 1))) H26 (.cons rfl (.cons rfl (.cons rfl (.cons rfl (.cons rfl (.cons rfl (.nil _))))))) .slnil))) (fun k23 H24=>av<|ac<|aa (bI rfl rfl) rfl<|aa (ad rfl) rfl<|ae<|cT (s12.1,(IntKind.i64.wrap (s12.2 + 1))) H24 (.cons rfl (.cons rfl (.cons rfl (.cons rfl (.cons rfl (.cons rfl (.nil _))))))) .slnil)))) (fun k15 H16=>bA<|ah<|ac<|aa (ad rfl) rfl<|aa (ag rfl) rfl<|ae<|ao<|aw (az rfl (aE rfl)) ⟨s12.1,rfl,H16⟩))))))) (fun k4 H5=>am rfl rfl rfl (ci (bN k4)) rfl<|am rfl rfl rfl (ci (bN k4)) rfl<|aa (bd rfl (bN k4) rfl) rfl<|ae<|lz rfl rfl<|ah<|ac<|aa (ag rfl) rfl<|ae<|ao<|aw (az rfl (aE rfl)) ⟨(⟨none,0,0,none⟩:Sl),rfl,H5⟩)
def qA (a0:Ptr) (a1:Int) (K:Bool→Hp→Prop):Hp→Prop:=br (decide (a1 ≥ 1)) ( cl Tryz.prog fO [(pv a0)] gH fun r10=>br (decide (a1 ≤ r10)) ( cl Tryz.prog iO [(pv a0),(.int .u64 a1)] cJ fun r16=>K ((r16.len:Int) == 0)) ( K false)) ( K false)
set_option maxRecDepth 20000 in
theorem sim_epoch_Epochs_Done (a0:Ptr) (a1:Int) {K:Bool→Hp→Prop} {h:Hp} (H:qA a0 a1 K h):Ct Tryz.prog jj #[(pv a0),(.int .u64 a1)] h fun v h'=>∃ r,v = aK r∧K r h':=aD [(pv a0),(.int .u64 a1)] Tryz.func72 rfl rfl rfl fun _=>ah<|ac<|aa (ag rfl) rfl<|ae<|ah<|ac<|aa (ad rfl) rfl<|aa (gz rfl rfl) rfl<|aa (ad rfl) rfl<|aj rfl rfl rfl (aA _) (fun g1=>wv (ad rfl)) rfl<|aj rfl rfl rfl (aA _) (fun g2=>wv (ad rfl)) rfl<|cc H (fun k4 H5=>aL rfl rfl rfl (congrArg Value.bool k4) (aB H5 en_104 (ba (aJ rfl k4) bY) rfl fun r10 _ H6=>aL rfl rfl rfl (congrArg Value.bool k4) (aQ (wv (v_le (aJ rfl k4) rfl)) rfl<|aa (bd rfl k4 rfl) rfl<|aa (ad rfl) rfl<|aj rfl rfl rfl (aA _) (fun g7=>wv (ad rfl)) rfl<|aj rfl rfl rfl (aA _) (fun g8=>wv (ad rfl)) rfl<|cc H6 (fun k10 H11=>aL rfl rfl rfl (congrArg Value.bool k10) (aB H11 en_106 (ba (aJ rfl k10) (ba (aJ rfl k10) bY)) rfl fun r16 _ H12=>aL rfl rfl rfl (congrArg Value.bool k10) (aQ (wv (dB rfl Tryz.underlying41 rfl)) rfl<|aL rfl rfl rfl (congrArg Value.bool k10) (aQ (wv (bV rfl rfl)) rfl<|aa (bd rfl k10 rfl) rfl<|aa (ag rfl) rfl<|ae<|ao<|aw (az rfl (aE rfl)) ⟨((r16.len:Int) == 0),rfl,H12⟩)))) (fun k10 H11=>am rfl rfl rfl (bc k10) rfl<|am rfl rfl rfl (bc k10) rfl<|am rfl rfl rfl (bc k10) rfl<|aa (ay rfl k10 rfl) rfl<|aa (ag rfl) rfl<|ae<|ao<|aw (az rfl (aE rfl)) ⟨false,rfl,H11⟩)))) (fun k4 H5=>am rfl rfl rfl (bc k4) rfl<|am rfl rfl rfl (bc k4) rfl<|aa (ay rfl k4 rfl) rfl<|aa (ad rfl) rfl<|am rfl rfl rfl rfl rfl<|am rfl rfl rfl rfl rfl<|am rfl rfl rfl rfl rfl<|am rfl rfl rfl rfl rfl<|am rfl rfl rfl rfl rfl<|aa (ay rfl rfl rfl) rfl<|aa (ag rfl) rfl<|ae<|ao<|aw (az rfl (aE rfl)) ⟨false,rfl,H5⟩)
def rz (a0:Ptr) (a1:Int) (a2:Int) (K:Bool→Hp→Prop):Hp→Prop:=cl Tryz.prog kM [(pv a0),(.int .i64 a1)] aK fun r9=>br (!((!r9) || (decide (a2 < 1)))) ( cl Tryz.prog fO [(pv a0)] gH fun r18=>br (decide (a2 > r18)) ( K false) ( nn a0 fun q22=>ld (q22.1,q22.2 + 1) cS fun x29=>ix x29 a1 fun q31=>ld (q31.1,q31.2 + Int.toNat a1 * 1) (cI .u64) fun x32=>ld (q22.1,q22.2 + 1) cS fun x24=>ix x24 a1 fun q35=>st (q35.1,q35.2 + Int.toNat a1 * 1) [.int .u64 (mx x32 a2)]<|K true)) ( K false)
set_option maxRecDepth 20000 in
theorem sim_epoch_Epochs_Ack (a0:Ptr) (a1:Int) (a2:Int) {K:Bool→Hp→Prop} {h:Hp} (H:rz a0 a1 a2 K h):Ct Tryz.prog jU #[(pv a0),(.int .i64 a1),(.int .u64 a2)] h fun v h'=>∃ r,v = aK r∧K r h':=aD [(pv a0),(.int .i64 a1),(.int .u64 a2)] Tryz.func76 rfl rfl rfl fun _=>ah<|ac<|aa (ag rfl) rfl<|ae<|ah<|ah<|ac<|aa (ad rfl) rfl<|aa (ad rfl) rfl<|ak (aB H en_103 rfl rfl fun r9 _ H1=>aa (cD rfl) rfl<|aa (ad rfl) rfl<|aj rfl rfl rfl (aS _) (fun g2=>wv (ad rfl)) rfl<|aj rfl rfl rfl (aS _) (fun g3=>wv (cx (aJ rfl g3) rfl)) rfl<|aa (dr rfl rfl) rfl<|aa (ad rfl) rfl<|aj rfl rfl rfl (aS _) (fun g4=>wv (ad rfl)) rfl<|aj rfl rfl rfl (aS _) (fun g5=>wv (ad rfl)) rfl<|cc H1 (fun k7 H8=>aL rfl rfl rfl (congrArg Value.bool (cm k7)) (aB H8 en_104 (ba (aJ rfl k7) bY) rfl fun r18 _ H9=>aL rfl rfl rfl (congrArg Value.bool (cm k7)) (aQ (wv (oQ (aJ rfl k7) rfl)) rfl<|aa (ay rfl (cm k7) rfl) rfl<|ae<|aC rfl H9 (fun k10 H11=>ah<|ac<|aa (ag rfl) rfl<|ae<|ao<|aw (az rfl (aE rfl)) ⟨false,rfl,H11⟩) (fun k10 H11=>av<|ah<|bC (n:=16) [] cy rfl .slnil<|ai (i:=0) (fun _ _ _ _=>id) rfl (by kernel_rfl) rfl (ve (ad rfl))<|ai (i:=4) (fun _ _ _ _=>id) rfl (by kernel_rfl) rfl (ve (ad rfl))<|ai (i:=5) (fun _ _ _ _=>id) rfl (by kernel_rfl) rfl (ve (ad rfl))<|ai (i:=9) (fun _ _ _ _=>id) rfl (by kernel_rfl) rfl (ve (ad rfl))<|ai (i:=12) (fun _ _ _ _=>id) rfl (by kernel_rfl) rfl (ve (ad rfl))<|gO H11 fun q22 e12 H13=>ai (i:=1) (fun _ _ _ _=>id) rfl (by kernel_rfl) rfl (ve (aV (aW rfl (ax e12))))<|ai (i:=2) (fun _ _ _ _=>id) rfl (by kernel_rfl) rfl (ve (an fld_139_1 rfl))<|ai (i:=6) (fun _ _ _ _=>id) rfl (by kernel_rfl) rfl (ve (aV (aW rfl (ax e12))))<|ai (i:=7) (fun _ _ _ _=>id) rfl (by kernel_rfl) rfl (ve (an fld_139_1 rfl))<|bR (i:=8) (fun _ _ _ _=>id) H13 rfl (by kernel_rfl) sc_80 rfl (fun _=>rfl) rfl fun x29 H14=>fQ H14 fun q31 e15 h16 H17=>ai (i:=10) (fun _ _ _ _=>id) rfl (by kernel_rfl) rfl (ve (bD wg (aW rfl (bn e15)) rfl h16))<|bR (i:=11) (fun _ _ _ _=>id) H17 rfl (by kernel_rfl) cE rfl (fun _=>rfl) rfl fun x32 H18=>ai (i:=13) (fun _ _ _ _=>id) rfl (by kernel_rfl) rfl (ve (v_maxT rfl rfl))<|bR (i:=3) (fun _ _ _ _=>id) H18 rfl (by kernel_rfl) sc_80 rfl (fun _=>rfl) rfl fun x24 H19=>fQ H19 fun q35 e20 h21 H22=>ai (i:=14) (fun _ _ _ _=>id) rfl (by kernel_rfl) rfl (ve (bD wg (aW rfl (bn e20)) rfl h21))<|bh (i:=15) (by kernel_rfl) (aI rfl rfl (dC inf_25 rfl rfl rfl rfl rfl H22 fun _ H23=>⟨.slnil,bf (by kernel_rfl)<|ah<|ac<|aa (ag rfl) rfl<|ae<|ao<|aw (az rfl (aE rfl)) ⟨true,rfl,H23⟩⟩)))))) (fun k7 H8=>am rfl rfl rfl (ci (bN k7)) rfl<|am rfl rfl rfl (ci (bN k7)) rfl<|aa (bd rfl (bN k7) rfl) rfl<|ae<|lz rfl rfl<|ah<|ac<|aa (ag rfl) rfl<|ae<|ao<|aw (az rfl (aE rfl)) ⟨false,rfl,H8⟩))
end Go.Proofs.YtniiiakkdoiaiaaGreatDoor
namespace Go.Proofs.YtniiiakkdoiaiaaGreatDoor
open Go Mb
def eX (x:Ptr) (e:List Int × List Int):As:=fun h=>∃ bs:Nat × Sl × Sl,(x = some (bs.1,0)∧e.2.length ≤ 8∧e.1.length < 2 ^ 38)∧aP [blk bs.1 hO [sv bs.2.1,sv bs.2.2],vI bs.2.1 e.1,vU bs.2.2 e.2] h
theorem ep_op {x:Ptr} {e:List Int × List Int} {l:List As} {h:Hp} (s0:aP (eX x e::l) h):∃ b s t,x = some (b,0)∧e.2.length ≤ 8∧e.1.length < 2 ^ 38∧s.len = e.1.length∧t.len = e.2.length∧aP (blk b hO [sv s,sv t]::vI s e.1::vU t e.2::l) h:=by
  obtain ⟨⟨b,s,t⟩,⟨hx,h1,h2⟩,st⟩:=op_ s0
  exact ⟨b,s,t,hx,h1,h2,(cq (j:=1) st rfl).1,(cq (j:=2) st rfl).1,st⟩
theorem ep_cl {b:Nat} {s t:Sl} {e1 e2:List Int} {l:List As} {h:Hp} (h1:e2.length ≤ 8) (h2:e1.length < 2 ^ 38) (st:aP (blk b hO [sv s,sv t]::vI s e1::vU t e2::l) h):aP (eX (some (b,0)) (e1,e2)::l) h :=
  cl_ (m:=fun bs:Nat × Sl × Sl=>[blk bs.1 hO [sv bs.2.1,sv bs.2.2],vI bs.2.1 (e1,e2).1,vU bs.2.2 (e1,e2).2]) (b,s,t) ⟨rfl,h1,h2⟩ st
namespace Epochs
abbrev S:=List Int × List Int
def is (e:S) (c:Int):Bool:=decide (0 ≤ c∧c < e.2.length)
def now (e:S):Int:=e.1.length
def begin_ (e:S) (c:Int):(Int × Bool) × S:=if is e c then ((e.1.length + 1,true),(e.1++[c],e.2)) else ((0,false),e)
def ack (e:S) (c n:Int):Bool × S:=if is e c = true∧¬ n < 1∧¬ n > now e then (true,(e.1,e.2.set c.toNat (mx (e.2.getD c.toNat 0) n))) else (false,e)
def waitsFrom (n o:Int):List Int→Int→List Int
  | [],_=>[]
  | a::l,i=>if a < n∧o ≠ i then i::waitsFrom n o l (i + 1) else waitsFrom n o l (i + 1)
def waits (e:S) (n:Int):List Int:=if n < 1∨n > now e then [] else waitsFrom n (e.1.getD (n - 1).toNat 0) e.2 0
def done (e:S) (n:Int):Bool:=decide (n ≥ 1) && decide (n ≤ now e) && decide (waits e n = [])
end Epochs
theorem wrapU {n:Int} (h0:0 ≤ n) (h1:n < 2^64):IntKind.u64.wrap n = n:=by
  simp only [IntKind.wrap]; first | omega | (simp [IntKind.bits,IntKind.signed]; omega)
theorem rK (n:Int) (h1:¬ n < 1) (h2:¬ n > 8):Sp Tryz.prog nH [.int .i64 n] iD [] (fun r=>aP [eX r ([],List.replicate n.toNat 0)]):=by
  intro h st
  refine sim_epoch_New _ ?_
  unfold sh_epoch_New
  obtain ⟨m,rfl⟩:=Int.eq_ofNat_of_zero_le (show 0 ≤ n by omega)
  refine dJ (by simp; omega) ?_
  refine nI (τ:=Int) (x0:=0) (enc:=cI .u64) (n:=m) fR rfl st ?_ ?_ ?_
  · omega
  · omega
  · intro v h' s1
    refine oS s1 fun b h'' s2=>?_
    exact ep_cl (by simp; omega) (by simp) (bp [1] (fI s2) rfl)
theorem sp_epoch_is (x:Ptr) (e:Epochs.S) (c:Int):Sp Tryz.prog kM [pv x,.int .i64 c] aK [eX x e] (fun r=>pa_ (r = Epochs.is e c) [eX x e]):=by
  intro h s0
  obtain ⟨b,s,t,rfl,hb,he,hs,ht,st⟩:=ep_op s0
  refine sim_epoch_Epochs_is _ _ ?_
  unfold sF
  refine bk (fun k=>?_) (fun k=>?_)
  · have k':0 ≤ c:=by simpa using k
    refine cO (bB t st (i:=0) rfl rfl rfl ?_)
    exact bi (by simp [Epochs.is,k',ht]) s0
  · have k':¬ 0 ≤ c:=by simpa using k
    exact bi (by simp [Epochs.is]; intro h; exact absurd h k') s0
theorem rJ (x:Ptr) (e:Epochs.S):Sp Tryz.prog fO [pv x] gH [eX x e] (fun r=>pa_ (r = Epochs.now e) [eX x e]):=by
  intro h s0
  obtain ⟨b,s,t,rfl,hb,he,hs,ht,st⟩:=ep_op s0
  refine sim_epoch_Epochs_Now _ ?_
  unfold ry
  refine dJ rfl (cO (bB s st (i:=0) rfl rfl rfl ?_))
  exact bi (by rw [wrapU (by omega) (by omega),hs]; rfl) s0
theorem sp_epoch_Begin (x:Ptr) (e:Epochs.S) (c:Int) (hl:e.1.length < 2 ^ 37):Sp Tryz.prog iP [pv x,.int .i64 c] bT [eX x e] (fun r=>pa_ (r = (Epochs.begin_ e c).1) [eX x (Epochs.begin_ e c).2]):=by
  intro h s0
  refine wx _ _ ?_
  unfold pq
  refine cW [0] (sp_epoch_is x e c) s0 rfl fun r h1 s1=>?_
  obtain ⟨hr,s2⟩:=bF.1 s1
  subst hr
  refine bk (fun k=>?_) (fun k=>?_)
  · have k':Epochs.is e c = false:=by simpa using k
    have e1:Epochs.begin_ e c = ((0,false),e):=by unfold Epochs.begin_; rw [k']; rfl
    rw [e1]
    exact bi rfl s2
  · have k':Epochs.is e c = true:=by simpa using k
    have e1:Epochs.begin_ e c = (((e.1.length:Int) + 1,true),(e.1++[c],e.2)):=if_pos k'
    rw [e1]
    obtain ⟨b,s,t,rfl,hb,he,hs,ht,st⟩:=ep_op s2
    refine cO (bB s st (i:=0) rfl rfl rfl ?_)
    refine vM st (i:=1) rfl (by omega) fun v h3 s3=>?_
    refine uq (i:=0) s3 rfl (show 0 + 0 + 1 ≤ 2 by decide) fun h4 s4=>?_
    have s5:=ep_cl (e1:=e.1++[c]) (e2:=e.2) hb (by simp; omega) s4
    refine cW [0] (rJ (some (b,0)) (e.1++[c],e.2)) s5 rfl fun r h6 s6=>?_
    obtain ⟨hr,s7⟩:=bF.1 s6
    subst hr
    exact bi (by simp [Epochs.now]) s7
theorem sp_epoch_Ack (x:Ptr) (e:Epochs.S) (c n:Int):Sp Tryz.prog jU [pv x,.int .i64 c,.int .u64 n] aK [eX x e] (fun r=>pa_ (r = (Epochs.ack e c n).1) [eX x (Epochs.ack e c n).2]):=by
  intro h s0
  refine sim_epoch_Epochs_Ack _ _ _ ?_
  unfold rz
  refine cW [0] (sp_epoch_is x e c) s0 rfl fun r h1 s1=>?_
  obtain ⟨hr,s2⟩:=bF.1 s1
  subst hr
  have no:¬ (Epochs.is e c = true∧¬ n < 1∧¬ n > Epochs.now e)→Epochs.ack e c n = (false,e):=fun hh=>if_neg hh
  refine bk (fun k=>?_) (fun k=>?_)
  · have k':Epochs.is e c = true∧¬ n < 1:=by simpa using k
    refine cW [0] (rJ x e) s2 rfl fun r h3 s3=>?_
    obtain ⟨hr,s4⟩:=bF.1 s3
    subst hr
    refine bk (fun k2=>?_) (fun k2=>?_)
    · rw [no (fun hh=>hh.2.2 (by simpa using k2))]
      exact bi rfl s4
    · have k2':¬ n > Epochs.now e:=by simpa using k2
      have e1:Epochs.ack e c n = (true,(e.1,e.2.set c.toNat (mx (e.2.getD c.toNat 0) n))):=if_pos ⟨k'.1,k'.2,k2'⟩
      rw [e1]
      obtain ⟨b,s,t,rfl,hb,he,hs,ht,st⟩:=ep_op s4
      have hc:=k'.1
      unfold Epochs.is at hc
      have hc':=of_decide_eq_true hc
      obtain ⟨m,rfl⟩:=Int.eq_ofNat_of_zero_le hc'.1
      have hm:m < e.2.length:=by omega
      refine cO (bB t st (i:=0) rfl rfl rfl ?_)
      refine dE st (j:=2) rfl (by omega) (by omega) fun q hq=>?_
      refine eC (j:=2) (i:=m) (k:=0) e.2[m] (dk _) st rfl hq (by simp) (aO hm) (by simp) ?_
      refine bB t st (i:=0) rfl rfl rfl ?_
      refine dE st (j:=2) rfl (by omega) (by omega) fun q2 hq2=>?_
      refine st_v (j:=2) (i:=m) (k:=0) (mx e.2[m] n) (dk _) st rfl hq2 (by simp) (aO hm) (by simp) rfl fun h5 s5=>?_
      have hg:e.2.getD (m:Int).toNat 0 = e.2[m]:=by simp [hm]
      rw [hg]
      exact bi rfl (ep_cl (by simpa using hb) he s5)
  · have k':¬ (Epochs.is e c = true∧¬ n < 1):=by simp at k; simp; omega
    rw [no (fun hh=>k' ⟨hh.1,hh.2.1⟩)]
    exact bi rfl s2
theorem vS (n o:Int):∀ (l:List Int) (i:Int) (a:Int),Epochs.waitsFrom n o (l++[a]) i = Epochs.waitsFrom n o l i++(if a < n∧o ≠ i + l.length then [i + l.length] else [])
  | [],i,a=>by simp only [List.nil_append,Epochs.waitsFrom]; split <;> simp_all
  | y::l,i,a=>by
    simp only [List.cons_append,Epochs.waitsFrom]
    rw [vS n o l (i + 1) a]
    have e:i + 1 + (l.length:Int) = i + ((y::l).length:Int):=by simp; omega
    rw [e]
    split <;> simp
theorem waits_len (n o:Int):∀ (l:List Int) (i:Int),(Epochs.waitsFrom n o l i).length ≤ l.length
  | [],_=>Nat.le_refl _
  | a::l,i=>by unfold Epochs.waitsFrom; have:=waits_len n o l (i + 1); split <;> simp <;> omega
theorem sp_epoch_Waits (x:Ptr) (e:Epochs.S) (n:Int):Sp Tryz.prog iO [pv x,.int .u64 n] cJ [eX x e] (fun r=>aP [vI r (Epochs.waits e n),eX x e]):=by
  intro h s0
  refine ww _ _ ?_
  unfold pn
  have no:(n < 1∨n > Epochs.now e)→Epochs.waits e n = []:=fun hh=>if_pos hh
  refine bk (fun k=>?_) (fun k=>?_)
  · have k':¬ n < 1:=by simpa using k
    refine cW [0] (rJ x e) s0 rfl fun r h3 s3=>?_
    obtain ⟨hr,s4⟩:=bF.1 s3
    subst hr
    refine bk (fun k2=>?_) (fun k2=>?_)
    · rw [no (.inr (by simpa using k2))]
      exact fI s4
    · have k2':¬ n > Epochs.now e:=by simpa using k2
      have e1:Epochs.waits e n = Epochs.waitsFrom n (e.1.getD (n - 1).toNat 0) e.2 0:=if_neg (by omega)
      rw [e1]
      obtain ⟨b,s,t,rfl,hb,he,hs,ht,st⟩:=ep_op s4
      obtain ⟨m,hm⟩:=Int.eq_ofNat_of_zero_le (show 0 ≤ n - 1 by omega)
      have hm':m < e.1.length:=by unfold Epochs.now at k2'; omega
      have hwu:IntKind.u64.wrap (n - 1) = m:=by rw [wrapU (by omega) (by omega),hm]
      have hg:e.1.getD (n - 1).toNat 0 = e.1[m]:=by rw [hm]; simp [hm']
      rw [hg]
      refine cO (bB t st (i:=0) rfl rfl rfl ?_)
      refine Lp.intro (fun (z:Sl × Int) h=>∃ k:Nat,z.2 = k∧k ≤ e.2.length∧aP [vI z.1 (Epochs.waitsFrom n e.1[m] (e.2.take k) 0),blk b hO [sv s,sv t],vI s e.1,vU t e.2] h) (fun (z:Sl × Int) _=>e.2.length - z.2.toNat) ⟨0,rfl,Nat.zero_le _,fI st⟩ ?_
      rintro ⟨z,i⟩ h ⟨k3,rfl,hk3,s5⟩
      unfold kE
      refine bk (fun c=>?_) (fun c=>?_)
      · have hlt:k3 < e.2.length:=by rw [ht] at c; simpa using c
        have hw:IntKind.i64.wrap ((k3:Int) + 1) = ((k3 + 1:Nat):Int):=by rw [cf (by omega) (by omega)]; rfl
        have htk:e.2.take (k3 + 1) = e.2.take k3++[e.2[k3]]:=by simp
        have hlen:((e.2.take k3).length:Int) = k3:=by simp; omega
        have off:¬ (e.2[k3] < n∧e.1[m] ≠ k3)→dv (fun z' h'=>(∃ k:Nat,z'.2 = k∧k ≤ e.2.length∧aP [vI z'.1 (Epochs.waitsFrom n e.1[m] (e.2.take k) 0),blk b hO [sv s,sv t],vI s e.1,vU t e.2] h')∧e.2.length - z'.2.toNat < e.2.length - (k3:Int).toNat) (z,(k3:Int)) false h:=by
          intro hno
          unfold dv
          refine dJ rfl ?_
          rw [hw]
          refine ⟨⟨k3 + 1,rfl,hlt,?_⟩,by simp; omega⟩
          rw [htk,vS,hlen,Int.zero_add,if_neg hno,List.append_nil]
          exact s5
        refine dE s5 (j:=3) rfl (by omega) (by show (k3:Int) < _; omega) fun q hq=>?_
        refine eC (j:=3) (i:=k3) (k:=0) e.2[k3] (dk _) s5 rfl hq (by simp) (aO hlt) (by simp) ?_
        refine bk (fun c2=>?_) (fun c2=>?_)
        · have c2':e.2[k3] < n:=by simpa using c2
          refine bB s s5 (i:=1) rfl rfl rfl ?_
          rw [hwu]
          refine dE s5 (j:=2) rfl (by omega) (by omega) fun q2 hq2=>?_
          refine eC (j:=2) (i:=m) (k:=0) e.1[m] (dk _) s5 rfl hq2 (by simp) (aO hm') (by simp) ?_
          by_cases hne:e.1[m] = (k3:Int)
          · have:(e.1[m] != (k3:Int)) = false:=by simp [hne]
            show dv _ _ (e.1[m] != (k3:Int)) h
            rw [this]
            exact off (fun hh=>hh.2 hne)
          · have:(e.1[m] != (k3:Int)) = true:=by simp [hne]
            show dv _ _ (e.1[m] != (k3:Int)) h
            rw [this]
            unfold dv
            refine dW rfl ?_
            refine vM s5 (i:=0) rfl ?_ fun v h' s6=>?_
            · have:=waits_len n e.1[m] (e.2.take k3) 0; simp at this; omega
            · rw [hw]
              refine ⟨⟨k3 + 1,rfl,hlt,?_⟩,by simp; omega⟩
              rw [htk,vS,hlen,Int.zero_add,if_pos ⟨c2',hne⟩]
              exact s6
        · have c2':¬ e.2[k3] < n:=by simpa using c2
          exact off (fun hh=>c2' hh.1)
      · have:k3 = e.2.length:=by rw [ht] at c; simp at c; omega
        subst this
        rw [List.take_length] at s5
        exact star_tail s5 fun h6 s6=>ep_cl hb he s6
  · have k':n < 1:=by simpa using k
    rw [no (.inl k')]
    exact fI s0
theorem sp_epoch_Done (x:Ptr) (e:Epochs.S) (n:Int):Sp Tryz.prog jj [pv x,.int .u64 n] aK [eX x e] (fun r=>pa_ (r = Epochs.done e n) [eX x e]):=by
  intro h s0
  refine sim_epoch_Epochs_Done _ _ ?_
  unfold qA
  refine bk (fun k=>?_) (fun k=>?_)
  · have k':n ≥ 1:=by simpa using k
    refine cW [0] (rJ x e) s0 rfl fun r h3 s3=>?_
    obtain ⟨hr,s4⟩:=bF.1 s3
    subst hr
    refine bk (fun k2=>?_) (fun k2=>?_)
    · refine cW [0] (sp_epoch_Waits x e n) s4 rfl fun r h5 s5=>?_
      have s6:=dG s5
      have hl:=(cq (j:=0) s6 rfl).1
      refine bi ?_ (ct (l:=[vI r (Epochs.waits e n)]) s6)
      have e1:decide (n ≥ 1) = true:=k
      have e2:decide (n ≤ Epochs.now e) = true:=k2
      rw [hl]
      unfold Epochs.done
      rw [e1,e2]
      cases Epochs.waits e n with
      | nil=>rfl
      | cons a l=>simp; omega
    · exact bi (by unfold Epochs.done; rw [k2]; simp) s4
  · exact bi (by unfold Epochs.done; rw [k]; rfl) s0
end Go.Proofs.YtniiiakkdoiaiaaGreatDoor
