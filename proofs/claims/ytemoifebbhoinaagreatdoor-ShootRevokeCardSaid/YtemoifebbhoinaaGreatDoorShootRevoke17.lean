/- Part of the proof of: The law ShootRevoke returns true for every input, and leaves its arguments as they were. -/
import Derived.Test.YtemoifebbhoinaaGreatDoorShootRevoke16
set_option linter.all false
set_option maxRecDepth 20000
namespace Go.Proofs.YtemoifebbhoinaaGreatDoor
open Go Mb
structure Cw (c:dc):Prop where
  c0:0 ≤ c.e0
  c1:0 ≤ c.e1
  c2:0 ≤ c.e2
  c3:0 ≤ c.e3
  c4:0 ≤ c.e4
theorem kwr {x:Int} (h0:0 ≤ x) (h1:x < 16):IntKind.i64.wrap x = x:=bR (by omega) (by omega)
theorem kind_of {c:dc}:(aA c).2 = true↔(1 ≤ c.e0∧c.e0 ≤ 10∨20 ≤ c.e0∧c.e0 ≤ 23):=by
  unfold aA
  by_cases h:(1 ≤ c.e0∧c.e0 ≤ 10∨20 ≤ c.e0∧c.e0 ≤ 23)
  · have:(((decide (c.e0 ≥ 1)) && (decide (c.e0 ≤ 10))) || ((decide (c.e0 ≥ 20)) && (decide (c.e0 ≤ 23)))) = true:=by simpa using h
    rw [this]; simp [h]
  · have:(((decide (c.e0 ≥ 1)) && (decide (c.e0 ≤ 10))) || ((decide (c.e0 ≥ 20)) && (decide (c.e0 ≤ 23)))) = false:=by
      cases hb:(((decide (c.e0 ≥ 1)) && (decide (c.e0 ≤ 10))) || ((decide (c.e0 ≥ 20)) && (decide (c.e0 ≤ 23)))) with
      | false=>rfl
      | true=>exact absurd (by simpa using hb) h
    rw [this]; simp [h]
theorem vR {c:dc} (h:1 ≤ c.e0∧c.e0 ≤ 10∨20 ≤ c.e0∧c.e0 ≤ 23):aA c = (c.e0,true):=by
  unfold aA
  have:(((decide (c.e0 ≥ 1)) && (decide (c.e0 ≤ 10))) || ((decide (c.e0 ≥ 20)) && (decide (c.e0 ≤ 23)))) = true:=by simpa using h
  rw [this]
  show (IntKind.i64.wrap c.e0,true) = _
  rw [bR (by omega) (by omega)]
structure Well (n:Int) (c:dc):Prop where
  kind:1 ≤ c.e0∧c.e0 ≤ 10∨20 ≤ c.e0∧c.e0 ≤ 23
  w1:c.e0 ≠ 10→c.e1 < 8
  w2:c.e0 = 2∨c.e0 = 6→c.e2 < 8
  w3:c.e0 = 3→c.e2 < n∧c.e3 < 8∧1 ≤ c.e4∧c.e4 ≤ 3
  w4:c.e0 = 2∨c.e0 = 6→1 ≤ c.e3∧c.e3 ≤ 3
  w5:c.e0 = 8→1 ≤ c.e2∧c.e2 ≤ 3
  w6:c.e0 = 9→c.e2 < 16∧1 ≤ c.e3∧c.e3 ≤ 4
  w7:20 ≤ c.e0→c.e2 < 16
theorem rights_of {w:Int}:(ik w).2 = true↔1 ≤ w∧w ≤ 3:=by
  unfold ik
  cases h:((decide (w < 1)) || (decide (w > 3))) with
  | true=>simp at h ⊢; omega
  | false=>simp at h ⊢; omega
theorem arg_of {c:dc} {i m:Int} (hi:1 ≤ i) (hi5:i < 5) (hm:0 < m) (hm2:m < 2 ^ 60):(Word.arg c i m).2 = true↔ah.get c i < m:=by
  have hw:IntKind.u64.wrap m = m:=by simp only [IntKind.wrap]; first | omega | (simp [IntKind.bits,IntKind.signed]; omega)
  unfold Word.arg
  rw [hw]
  by_cases h:ah.get c i < m
  · rw [if_neg (by omega)]; simp [h]
  · rw [if_pos (by omega)]; simp [h]
theorem jK {c:dc} {n k i:Int} {ks:List Int}:Word.checks c n (k::ks) i = 0↔Word.fits c i k n = true∧Word.checks c n ks (i + 1) = 0:=by
  rw [Word.checks]
  split
  · rename_i h; simp [h]
  · rename_i h; simp [h]
theorem ko {c:dc} {i n:Int} (hi:1 ≤ i) (hi5:i < 5):Word.fits c i 0 n = true↔ah.get c i < 8:=by unfold Word.fits; rw [if_pos rfl]; exact arg_of hi hi5 (by decide) (by decide)
theorem fit1 {c:dc} {i n:Int} (hi:1 ≤ i) (hi5:i < 5):Word.fits c i 1 n = true↔ah.get c i < 8:=by unfold Word.fits; rw [if_neg (by decide),if_pos rfl]; exact arg_of hi hi5 (by decide) (by decide)
theorem fit2 {c:dc} {i n:Int} (hi:1 ≤ i) (hi5:i < 5):Word.fits c i 2 n = true↔ah.get c i < 16:=by unfold Word.fits; rw [if_neg (by decide),if_neg (by decide),if_pos rfl]; exact arg_of hi hi5 (by decide) (by decide)
theorem fit3 {c:dc} {i n:Int} (hi:1 ≤ i) (hi5:i < 5) (hn:0 < n) (hn2:n < 2 ^ 60):Word.fits c i 3 n = true↔ah.get c i < n:=by unfold Word.fits; rw [if_neg (by decide),if_neg (by decide),if_neg (by decide),if_pos rfl]; exact arg_of hi hi5 hn hn2
theorem fit4 {c:dc} {i n:Int}:Word.fits c i 4 n = true↔1 ≤ ah.get c i∧ah.get c i ≤ 3:=by unfold Word.fits; rw [if_neg (by decide),if_neg (by decide),if_neg (by decide),if_neg (by decide),if_pos rfl]; exact rights_of
theorem fit5 {c:dc} {i n:Int}:Word.fits c i 5 n = true↔1 ≤ ah.get c i∧ah.get c i ≤ 4:=by unfold Word.fits; rw [if_neg (by decide),if_neg (by decide),if_neg (by decide),if_neg (by decide),if_neg (by decide),if_pos rfl]; simp
theorem fit6 {c:dc} {i n:Int}:Word.fits c i 6 n = true:=by unfold Word.fits; rw [if_neg (by decide),if_neg (by decide),if_neg (by decide),if_neg (by decide),if_neg (by decide),if_neg (by decide)]
theorem get1 (c:dc):ah.get c 1 = c.e1:=rfl
theorem get2 (c:dc):ah.get c 2 = c.e2:=rfl
theorem get3 (c:dc):ah.get c 3 = c.e3:=rfl
theorem get4 (c:dc):ah.get c 4 = c.e4:=rfl
theorem tL {n:Int} {c:dc} (hn:1 ≤ n) (hn2:n ≤ 4) (h:Word.check c n = 0):Well n c:=by
  unfold Word.check at h
  split at h
  · cases h
  · rename_i hk
    have hk':=kind_of.1 (by simpa using hk)
    rw [vR hk'] at h
    have key:∀ (v:Int) (ks:List Int),c.e0 = v→Word.kinds v = ks→Word.checks c n ks 1 = 0:=fun v ks e1 e2=>by rw [← e2,← e1]; exact h
    have a1:(1:Int) + 1 = 2:=rfl
    have a2:(2:Int) + 1 = 3:=rfl
    have a3:(3:Int) + 1 = 4:=rfl
    have cases0:c.e0 = 1∨c.e0 = 2∨c.e0 = 3∨c.e0 = 4∨c.e0 = 5∨c.e0 = 6∨c.e0 = 7∨c.e0 = 8∨c.e0 = 9∨c.e0 = 10∨c.e0 = 20∨c.e0 = 21∨c.e0 = 22∨c.e0 = 23:=by omega
    rcases cases0 with e | e | e | e | e | e | e | e | e | e | e | e | e | e
    · have hh:=key 1 [0] e (by decide)
      simp only [jK,a1,a2,a3,ko (c:=c) (n:=n) (i:=1) (by decide) (by decide),ko (c:=c) (n:=n) (i:=2) (by decide) (by decide),ko (c:=c) (n:=n) (i:=3) (by decide) (by decide),fit1 (c:=c) (n:=n) (i:=1) (by decide) (by decide),fit2 (c:=c) (n:=n) (i:=2) (by decide) (by decide),fit3 (c:=c) (n:=n) (i:=2) (by decide) (by decide) (by omega) (by omega),fit4,fit5,fit6,get1,get2,get3,get4] at hh
      exact ⟨hk',fun _=>by omega,fun _=>by omega,fun _=>by omega,fun _=>by omega,fun _=>by omega,fun _=>by omega,fun _=>by omega⟩
    · have hh:=key 2 [0,0,4] e (by decide)
      simp only [jK,a1,a2,a3,ko (c:=c) (n:=n) (i:=1) (by decide) (by decide),ko (c:=c) (n:=n) (i:=2) (by decide) (by decide),ko (c:=c) (n:=n) (i:=3) (by decide) (by decide),fit1 (c:=c) (n:=n) (i:=1) (by decide) (by decide),fit2 (c:=c) (n:=n) (i:=2) (by decide) (by decide),fit3 (c:=c) (n:=n) (i:=2) (by decide) (by decide) (by omega) (by omega),fit4,fit5,fit6,get1,get2,get3,get4] at hh
      exact ⟨hk',fun _=>by omega,fun _=>by omega,fun _=>by omega,fun _=>by omega,fun _=>by omega,fun _=>by omega,fun _=>by omega⟩
    · have hh:=key 3 [0,3,0,4] e (by decide)
      simp only [jK,a1,a2,a3,ko (c:=c) (n:=n) (i:=1) (by decide) (by decide),ko (c:=c) (n:=n) (i:=2) (by decide) (by decide),ko (c:=c) (n:=n) (i:=3) (by decide) (by decide),fit1 (c:=c) (n:=n) (i:=1) (by decide) (by decide),fit2 (c:=c) (n:=n) (i:=2) (by decide) (by decide),fit3 (c:=c) (n:=n) (i:=2) (by decide) (by decide) (by omega) (by omega),fit4,fit5,fit6,get1,get2,get3,get4] at hh
      exact ⟨hk',fun _=>by omega,fun _=>by omega,fun _=>by omega,fun _=>by omega,fun _=>by omega,fun _=>by omega,fun _=>by omega⟩
    · have hh:=key 4 [0] e (by decide)
      simp only [jK,a1,a2,a3,ko (c:=c) (n:=n) (i:=1) (by decide) (by decide),ko (c:=c) (n:=n) (i:=2) (by decide) (by decide),ko (c:=c) (n:=n) (i:=3) (by decide) (by decide),fit1 (c:=c) (n:=n) (i:=1) (by decide) (by decide),fit2 (c:=c) (n:=n) (i:=2) (by decide) (by decide),fit3 (c:=c) (n:=n) (i:=2) (by decide) (by decide) (by omega) (by omega),fit4,fit5,fit6,get1,get2,get3,get4] at hh
      exact ⟨hk',fun _=>by omega,fun _=>by omega,fun _=>by omega,fun _=>by omega,fun _=>by omega,fun _=>by omega,fun _=>by omega⟩
    · have hh:=key 5 [0] e (by decide)
      simp only [jK,a1,a2,a3,ko (c:=c) (n:=n) (i:=1) (by decide) (by decide),ko (c:=c) (n:=n) (i:=2) (by decide) (by decide),ko (c:=c) (n:=n) (i:=3) (by decide) (by decide),fit1 (c:=c) (n:=n) (i:=1) (by decide) (by decide),fit2 (c:=c) (n:=n) (i:=2) (by decide) (by decide),fit3 (c:=c) (n:=n) (i:=2) (by decide) (by decide) (by omega) (by omega),fit4,fit5,fit6,get1,get2,get3,get4] at hh
      exact ⟨hk',fun _=>by omega,fun _=>by omega,fun _=>by omega,fun _=>by omega,fun _=>by omega,fun _=>by omega,fun _=>by omega⟩
    · have hh:=key 6 [1,0,4] e (by decide)
      simp only [jK,a1,a2,a3,ko (c:=c) (n:=n) (i:=1) (by decide) (by decide),ko (c:=c) (n:=n) (i:=2) (by decide) (by decide),ko (c:=c) (n:=n) (i:=3) (by decide) (by decide),fit1 (c:=c) (n:=n) (i:=1) (by decide) (by decide),fit2 (c:=c) (n:=n) (i:=2) (by decide) (by decide),fit3 (c:=c) (n:=n) (i:=2) (by decide) (by decide) (by omega) (by omega),fit4,fit5,fit6,get1,get2,get3,get4] at hh
      exact ⟨hk',fun _=>by omega,fun _=>by omega,fun _=>by omega,fun _=>by omega,fun _=>by omega,fun _=>by omega,fun _=>by omega⟩
    · have hh:=key 7 [1] e (by decide)
      simp only [jK,a1,a2,a3,ko (c:=c) (n:=n) (i:=1) (by decide) (by decide),ko (c:=c) (n:=n) (i:=2) (by decide) (by decide),ko (c:=c) (n:=n) (i:=3) (by decide) (by decide),fit1 (c:=c) (n:=n) (i:=1) (by decide) (by decide),fit2 (c:=c) (n:=n) (i:=2) (by decide) (by decide),fit3 (c:=c) (n:=n) (i:=2) (by decide) (by decide) (by omega) (by omega),fit4,fit5,fit6,get1,get2,get3,get4] at hh
      exact ⟨hk',fun _=>by omega,fun _=>by omega,fun _=>by omega,fun _=>by omega,fun _=>by omega,fun _=>by omega,fun _=>by omega⟩
    · have hh:=key 8 [1,4] e (by decide)
      simp only [jK,a1,a2,a3,ko (c:=c) (n:=n) (i:=1) (by decide) (by decide),ko (c:=c) (n:=n) (i:=2) (by decide) (by decide),ko (c:=c) (n:=n) (i:=3) (by decide) (by decide),fit1 (c:=c) (n:=n) (i:=1) (by decide) (by decide),fit2 (c:=c) (n:=n) (i:=2) (by decide) (by decide),fit3 (c:=c) (n:=n) (i:=2) (by decide) (by decide) (by omega) (by omega),fit4,fit5,fit6,get1,get2,get3,get4] at hh
      exact ⟨hk',fun _=>by omega,fun _=>by omega,fun _=>by omega,fun _=>by omega,fun _=>by omega,fun _=>by omega,fun _=>by omega⟩
    · have hh:=key 9 [0,2,5,6] e (by decide)
      simp only [jK,a1,a2,a3,ko (c:=c) (n:=n) (i:=1) (by decide) (by decide),ko (c:=c) (n:=n) (i:=2) (by decide) (by decide),ko (c:=c) (n:=n) (i:=3) (by decide) (by decide),fit1 (c:=c) (n:=n) (i:=1) (by decide) (by decide),fit2 (c:=c) (n:=n) (i:=2) (by decide) (by decide),fit3 (c:=c) (n:=n) (i:=2) (by decide) (by decide) (by omega) (by omega),fit4,fit5,fit6,get1,get2,get3,get4] at hh
      exact ⟨hk',fun _=>by omega,fun _=>by omega,fun _=>by omega,fun _=>by omega,fun _=>by omega,fun _=>by omega,fun _=>by omega⟩
    · have hh:=key 10 [] e (by decide)
      exact ⟨hk',fun _=>by omega,fun _=>by omega,fun _=>by omega,fun _=>by omega,fun _=>by omega,fun _=>by omega,fun _=>by omega⟩
    · have hh:=key 20 [1,2] e (by decide)
      simp only [jK,a1,a2,a3,ko (c:=c) (n:=n) (i:=1) (by decide) (by decide),ko (c:=c) (n:=n) (i:=2) (by decide) (by decide),ko (c:=c) (n:=n) (i:=3) (by decide) (by decide),fit1 (c:=c) (n:=n) (i:=1) (by decide) (by decide),fit2 (c:=c) (n:=n) (i:=2) (by decide) (by decide),fit3 (c:=c) (n:=n) (i:=2) (by decide) (by decide) (by omega) (by omega),fit4,fit5,fit6,get1,get2,get3,get4] at hh
      exact ⟨hk',fun _=>by omega,fun _=>by omega,fun _=>by omega,fun _=>by omega,fun _=>by omega,fun _=>by omega,fun _=>by omega⟩
    · have hh:=key 21 [1,2,6] e (by decide)
      simp only [jK,a1,a2,a3,ko (c:=c) (n:=n) (i:=1) (by decide) (by decide),ko (c:=c) (n:=n) (i:=2) (by decide) (by decide),ko (c:=c) (n:=n) (i:=3) (by decide) (by decide),fit1 (c:=c) (n:=n) (i:=1) (by decide) (by decide),fit2 (c:=c) (n:=n) (i:=2) (by decide) (by decide),fit3 (c:=c) (n:=n) (i:=2) (by decide) (by decide) (by omega) (by omega),fit4,fit5,fit6,get1,get2,get3,get4] at hh
      exact ⟨hk',fun _=>by omega,fun _=>by omega,fun _=>by omega,fun _=>by omega,fun _=>by omega,fun _=>by omega,fun _=>by omega⟩
    · have hh:=key 22 [1,2,6,6] e (by decide)
      simp only [jK,a1,a2,a3,ko (c:=c) (n:=n) (i:=1) (by decide) (by decide),ko (c:=c) (n:=n) (i:=2) (by decide) (by decide),ko (c:=c) (n:=n) (i:=3) (by decide) (by decide),fit1 (c:=c) (n:=n) (i:=1) (by decide) (by decide),fit2 (c:=c) (n:=n) (i:=2) (by decide) (by decide),fit3 (c:=c) (n:=n) (i:=2) (by decide) (by decide) (by omega) (by omega),fit4,fit5,fit6,get1,get2,get3,get4] at hh
      exact ⟨hk',fun _=>by omega,fun _=>by omega,fun _=>by omega,fun _=>by omega,fun _=>by omega,fun _=>by omega,fun _=>by omega⟩
    · have hh:=key 23 [1,2,6] e (by decide)
      simp only [jK,a1,a2,a3,ko (c:=c) (n:=n) (i:=1) (by decide) (by decide),ko (c:=c) (n:=n) (i:=2) (by decide) (by decide),ko (c:=c) (n:=n) (i:=3) (by decide) (by decide),fit1 (c:=c) (n:=n) (i:=1) (by decide) (by decide),fit2 (c:=c) (n:=n) (i:=2) (by decide) (by decide),fit3 (c:=c) (n:=n) (i:=2) (by decide) (by decide) (by omega) (by omega),fit4,fit5,fit6,get1,get2,get3,get4] at hh
      exact ⟨hk',fun _=>by omega,fun _=>by omega,fun _=>by omega,fun _=>by omega,fun _=>by omega,fun _=>by omega,fun _=>by omega⟩
namespace Caps
structure Keep (t t':T) (a b:Int):Prop where
  g:get t' a b = get t a b
  u:∀ p,under t' (get t a b) p = under t (get t a b) p
theorem Keep.refl (t:T) (a b:Int):Keep t t a b:=⟨rfl,fun _=>rfl⟩
theorem Keep.trans {t t' t'':T} {a b:Int} (h:Keep t t' a b) (h':Keep t' t'' a b):Keep t t'' a b :=
  ⟨h'.g.trans h.g,fun p=>by have:=h'.u p; rw [h.g] at this; rw [this]; exact h.u p⟩
theorem keep_put {t:T} (ok:Ok t) {e s:Int} (h:has t e s = true) (h0:(get t e s).fRights = 0) {c:Cap} (hc:0 ≤ c.fEnv→has t c.fEnv c.fSlot = true∧(get t c.fEnv c.fSlot).fRights ≠ 0) {a b:Int} (hab:has t a b = true) (hne:(get t a b).fRights ≠ 0):Keep t (put t e s c) a b :=
  ⟨by rw [get_put ok.row h hab,if_neg]; rintro ⟨rfl,rfl⟩; exact hne h0,fun p=>under_put ok h h0 hc p _ a b (Nat.le_refl _) hab hne⟩
theorem keep_empties {t:T} (ok:Ok t) {l:List bV} (hl:∀ p ∈ l,has t p.fEnv p.fSlot = true)
    (cl:∀ e s,has t e s = true→(get t e s).fRights ≠ 0→0 ≤ (get t e s).fEnv→(⟨(get t e s).fEnv,(get t e s).fSlot⟩:bV) ∈ l→(⟨e,s⟩:bV) ∈ l) {a b:Int} (hab:has t a b = true) (hne:(get t a b).fRights ≠ 0) (hm:(⟨a,b⟩:bV) ∉ l):Keep t (empties t l) a b :=
  ⟨by rw [jd l t ok.row hl a b hab,if_neg hm],fun p=>under_empties ok hl cl p _ a b (Nat.le_refl _) hab hne hm⟩
theorem cap_zero {n:Int} {t:T} (F:eC n t) {e s:Int} (h:has t e s = true) (h0:(get t e s).fRights = 0):get t e s = mo:=by
  rcases F e s h with e1 | e1 | e1
  · exact e1
  · rw [e1.1] at h0; cases h0
  · have:=(dk e1.2.2.2.1).1; omega
theorem put_put {t:T} {e s:Int} (c d:Cap) (h:has t e s = true):put (put t e s c) e s d = put t e s d:=by
  obtain ⟨m,n,rfl,rfl,hm,hn⟩:=has_nat h
  simp [put,hm]
theorem put_self {t:T} (row:∀ r ∈ t,r.length = 8) {e s:Int} (h:has t e s = true):put t e s (get t e s) = t:=by
  obtain ⟨m,n,rfl,rfl,hm,hn⟩:=has_nat h
  obtain ⟨h3,hg⟩:=get_nat' row hm hn
  rw [put_nat hm,hg]
  simp
theorem single {l:List bV} {p:bV} (nd:l.Nodup) (h:∀ x,x ∈ l↔x = p):l = [p]:=by
  match l,nd,h with
  | [],_,h=>exact absurd ((h p).2 rfl) (by simp)
  | [a],_,h=>rw [(h a).1 (by simp)]
  | a::b::l,nd,h =>
    have e1:=(h a).1 (by simp)
    have e2:=(h b).1 (by simp)
    rw [e1,e2] at nd
    simp at nd
theorem own_leaf {t:T} (ok:Ok t) {e s:Int} (h:has t e s = true) (hne:(get t e s).fRights ≠ 0) (hl:∀ a b,has t a b = true→(get t a b).fRights ≠ 0→under t (get t a b) ⟨e,s⟩ = false):own t e s = [⟨e,s⟩]:=by
  refine single (uE _ _ _) fun x=>?_
  constructor
  · intro hx
    have h1:=(mem_own ok).1 hx
    rcases h1.2.2 with h2 | h2
    · exact h2
    · rw [hl _ _ h1.1 h1.2.1] at h2; cases h2
  · rintro rfl
    exact (mem_own ok).2 ⟨h,hne,.inl rfl⟩
end Caps
end Go.Proofs.YtemoifebbhoinaaGreatDoor
namespace Go.Proofs.YtemoifebbhoinaaGreatDoor
open Go Mb
namespace Caps
theorem qZ:∀ (l m:List bV) (t:T),empties t (l++m) = empties (empties t l) m
  | [],_,_=>rfl
  | p::l,m,t=>by simp only [List.cons_append,empties]; exact qZ l m _
def goers (t:T) (e s:Int) (w:Bool):List bV:=if w = true then below t e s++[⟨e,s⟩] else below t e s
theorem mem_goers {t:T} (ok:Ok t) {e s:Int} {w:Bool} (h:has t e s = true) (hn:(get t e s).fRights ≠ 0) {p:bV}:p ∈ goers t e s w↔has t p.fEnv p.fSlot = true∧(get t p.fEnv p.fSlot).fRights ≠ 0∧((w = true∧p = ⟨e,s⟩)∨under t (get t p.fEnv p.fSlot) ⟨e,s⟩ = true):=by
  unfold goers
  cases w with
  | false =>
    rw [if_neg Bool.false_ne_true,mem_below ok]
    constructor
    · exact fun ⟨a,b,c⟩=>⟨a,b,.inr c⟩
    · rintro ⟨a,b,c | c⟩
      · cases c.1
      · exact ⟨a,b,c⟩
  | true =>
    rw [if_pos rfl,List.mem_append,mem_below ok,List.mem_singleton]
    constructor
    · rintro (⟨a,b,c⟩ | rfl)
      · exact ⟨a,b,.inr c⟩
      · exact ⟨h,hn,.inl ⟨rfl,rfl⟩⟩
    · rintro ⟨a,b,c | c⟩
      · exact .inr c.2
      · exact .inl ⟨a,b,c⟩
theorem goers_nd {t:T} (ok:Ok t) {e s:Int} {w:Bool} (h:has t e s = true):(goers t e s w).Nodup:=by
  unfold goers
  split
  · refine List.nodup_append.2 ⟨uE _ _ _,by simp,fun a ha b hb hab=>?_⟩
    rw [List.mem_singleton] at hb
    subst hb; subst hab
    have:=((mem_below ok).1 ha).2.2
    rw [not_under_self ok h] at this
    cases this
  · exact uE _ _ _
theorem goers_cl {t:T} (ok:Ok t) {e s:Int} {w:Bool} (h:has t e s = true) (hn:(get t e s).fRights ≠ 0):∀ a b,has t a b = true→(get t a b).fRights ≠ 0→0 ≤ (get t a b).fEnv→(⟨(get t a b).fEnv,(get t a b).fSlot⟩:bV) ∈ goers t e s w→(⟨a,b⟩:bV) ∈ goers t e s w:=by
  intro a b hab hne hen hp
  have h1:=(mem_goers ok h hn).1 hp
  refine (mem_goers ok h hn).2 ⟨hab,hne,.inr ?_⟩
  rw [under_step ok hab,if_pos ⟨hne,hen⟩]
  split
  · rfl
  · rename_i hno
    rcases h1.2.2 with h2 | h2
    · exact absurd ⟨congrArg aF.fEnv h2.2,congrArg aF.fSlot h2.2⟩ hno
    · exact h2
theorem goers_has {t:T} (ok:Ok t) {e s:Int} {w:Bool} (h:has t e s = true) (hn:(get t e s).fRights ≠ 0):∀ p ∈ goers t e s w,has t p.fEnv p.fSlot = true:=fun _ hp=>((mem_goers ok h hn).1 hp).1
theorem drop_after {t:T} (ok:Ok t) {e s:Int} (h:has t e s = true) (hn:(get t e s).fRights ≠ 0):drop (empties t (below t e s)) e s = (([⟨e,s⟩],0),empties t (goers t e s true)):=by
  have ok1:=ok_below ok e s
  have hl:∀ p ∈ below t e s,has t p.fEnv p.fSlot = true:=fun p hp=>((mem_below ok).1 hp).1
  have hself:(⟨e,s⟩:bV) ∉ below t e s:=fun hm=>by
    have:=((mem_below ok).1 hm).2.2
    rw [not_under_self ok h] at this; cases this
  have hg:get (empties t (below t e s)) e s = get t e s:=by rw [jd _ t ok.row hl e s h,if_neg hself]
  have hh:has (empties t (below t e s)) e s = true:=by rw [empties_has]; exact h
  have ho:own (empties t (below t e s)) e s = [⟨e,s⟩]:=by
    refine own_leaf ok1 hh (by rw [hg]; exact hn) fun a b hab hne=>?_
    rw [empties_has] at hab
    rw [jd _ t ok.row hl a b hab] at hne ⊢
    by_cases hm:(⟨a,b⟩:bV) ∈ below t e s
    · rw [if_pos hm] at hne; exact absurd rfl hne
    · rw [if_neg hm] at hne ⊢
      rw [under_empties ok hl (below_closed ok e s) _ _ a b (Nat.le_refl _) hab hne hm]
      cases hu:under t (get t a b) ⟨e,s⟩ with
      | false=>rfl
      | true=>exact absurd ((mem_below ok).2 ⟨hab,hne,hu⟩) hm
  unfold drop
  have hlook:look (empties t (below t e s)) e s = 0:=by unfold look; rw [hh,hg,if_neg (by simp),if_neg hn]
  rw [if_neg (by rw [hlook]; simp),ho]
  unfold goers
  rw [if_pos rfl,qZ]
end Caps
theorem unmaps_get {ps:List Pte} (hl:ps.length = 8):∀ (l:List Int) {ps:List Pte},ps.length = 8→∀ pg,Table.get (PK.unmaps ps l) pg = if pg ∈ l then (dh,false) else Table.get ps pg
  | [],_,_,pg=>by simp [PK.unmaps]
  | i::l,ps,hl,pg=>by
    rw [PK.unmaps,unmaps_get hl l (by rw [Table.remove_len]; exact hl) pg,Table.get_remove hl]
    by_cases h1:pg ∈ l
    · rw [if_pos h1,if_pos (by simp [h1])]
    · rw [if_neg h1]
      by_cases h2:pg = i
      · rw [if_pos h2,if_pos (by simp [h2])]
      · rw [if_neg h2,if_neg (by simp [h1,h2])]
theorem unmap_get {ps:List Pte} (hl:ps.length = 8) (s pg:Int):(Table.get (PK.unmap ps s) pg).1 = if (Table.get ps pg).1.fRights ≠ 0∧(Table.get ps pg).1.fSlot = s then dh else (Table.get ps pg).1:=by
  unfold PK.unmap
  rw [unmaps_get hl _ hl]
  by_cases h:pg ∈ Table.by_ ps s
  · have:=(Table.mem_by hl).1 h
    rw [Table.get_snd] at this
    rw [if_pos h,if_pos ⟨by simpa using this.1,this.2⟩]
  · rw [if_neg h,if_neg]
    rintro ⟨h1,h2⟩
    exact h ((Table.mem_by hl).2 ⟨by rw [Table.get_snd]; simpa using h1,h2⟩)
namespace PK
theorem gone_same:∀ (l:List bV) (k:PK) (f:Int),(gone k f l).caps = k.caps∧(gone k f l).s = k.s∧(gone k f l).m = k.m
  | [],_,_=>⟨rfl,rfl,rfl⟩
  | p::l,k,f=>by
    have:=gone_same l { k with tabs:=k.tabs.set p.fEnv.toNat (unmap (tab k p.fEnv) p.fSlot),pool:=(Pool.lets k.pool f).2.2 } f
    exact this
theorem gone_q:∀ (l:List bV) {k:PK} (_:PK.Ok k) (f:Int),(∀ p ∈ l,off k p.fEnv = false)→∀ e pg,q (gone k f l) e pg = if (q k e pg).fRights ≠ 0∧(⟨e,(q k e pg).fSlot⟩:bV) ∈ l then dh else q k e pg
  | [],k,_,_,_,e,pg=>by simp [gone]
  | p::l,k,ok,f,hl,e,pg=>by
    have hp:=hl p (by simp)
    have ht:=tab_in ok hp
    have h1:=lets_fine ok.pr f
    have h2:=ok_tabs ok p.fEnv (ps:=unmap (tab k p.fEnv) p.fSlot) (fun h=>tab_unmaps _ (tab_ok ok _ h))
    have h3:PK.Ok { k with tabs:=k.tabs.set p.fEnv.toNat (unmap (tab k p.fEnv) p.fSlot),pool:=(Pool.lets k.pool f).2.2 } :=
      ⟨h2.sz,h2.ml,h2.mr,h2.tl,h2.tr,by rw [← ok.pl]; exact congrArg Int.ofNat h1.1,h1.2,h2.cl,h2.tree,h2.fine⟩
    have hq:q { k with tabs:=k.tabs.set p.fEnv.toNat (unmap (tab k p.fEnv) p.fSlot),pool:=(Pool.lets k.pool f).2.2 } e pg = if (q k e pg).fRights ≠ 0∧(⟨e,(q k e pg).fSlot⟩:bV) = p then dh else q k e pg:=by
      have h4:q { k with tabs:=k.tabs.set p.fEnv.toNat (unmap (tab k p.fEnv) p.fSlot),pool:=(Pool.lets k.pool f).2.2 } e pg = q { k with tabs:=k.tabs.set p.fEnv.toNat (unmap (tab k p.fEnv) p.fSlot) } e pg:=q_same rfl rfl e pg
      rw [h4,q_tabs ok hp]
      by_cases he:e = p.fEnv
      · subst he
        rw [if_pos rfl,unmap_get ht.2,← uo hp]
        by_cases hs:(q k p.fEnv pg).fRights ≠ 0∧(q k p.fEnv pg).fSlot = p.fSlot
        · rw [if_pos hs,if_pos ⟨hs.1,by rw [hs.2]⟩]
        · rw [if_neg hs,if_neg]
          rintro ⟨a,b⟩
          exact hs ⟨a,congrArg aF.fSlot b⟩
      · rw [if_neg he,if_neg]
        rintro ⟨_,b⟩
        exact he (congrArg aF.fEnv b)
    have ih:=gone_q l h3 f (fun x hx=>hl x (by simp [hx])) e pg
    show q (gone _ f l) e pg = _
    rw [ih,hq]
    by_cases c1:(q k e pg).fRights ≠ 0∧(⟨e,(q k e pg).fSlot⟩:bV) = p
    · rw [if_pos c1,if_neg (fun h=>h.1 rfl),if_pos ⟨c1.1,by rw [c1.2]; simp⟩]
    · rw [if_neg c1]
      by_cases c2:(q k e pg).fRights ≠ 0∧(⟨e,(q k e pg).fSlot⟩:bV) ∈ l
      · rw [if_pos c2,if_pos ⟨c2.1,by simp [c2.2]⟩]
      · rw [if_neg c2,if_neg]
        rintro ⟨a,b⟩
        rcases List.mem_cons.1 b with b | b
        · exact c1 ⟨a,b⟩
        · exact c2 ⟨a,b⟩
theorem refs_nn {p:List Int} {g:Int} (hg:0 ≤ g):Pool.refs p g = (p[g.toNat]?).getD 0:=by unfold Pool.refs; rw [if_neg (show ¬ g < 0 by omega),List.getD_eq_getElem?_getD]
theorem refs_set {p:List Int} {i:Int} (h0:0 ≤ i) (h1:i < p.length) (v g:Int) (hg:0 ≤ g):Pool.refs (p.set i.toNat v) g = if g = i then v else Pool.refs p g:=by
  rw [refs_nn hg,refs_nn hg,List.getElem?_set]
  by_cases e:g = i
  · subst e
    rw [if_pos rfl,if_pos rfl,if_pos (show g.toNat < p.length by omega)]; rfl
  · rw [if_neg (show ¬ i.toNat = g.toNat by omega),if_neg e]
theorem refs_in {p:List Int} {i:Int} (h:Pool.refs p i ≠ 0):0 ≤ i∧i < p.length:=by
  unfold Pool.refs at h
  split at h
  · exact absurd rfl h
  · refine ⟨by omega,?_⟩
    by_cases hi:i.toNat < p.length
    · omega
    · simp [List.getD_eq_getElem?_getD,List.getElem?_eq_none (Nat.le_of_not_lt hi)] at h
theorem gone_pool:∀ (l:List bV) {k:PK} (f:Int),(∀ n ∈ k.pool,0 ≤ n∧n ≤ 7)→(l.length:Int) ≤ Pool.refs k.pool f→∀ g,0 ≤ g→Pool.refs (gone k f l).pool g = if g = f then Pool.refs k.pool f - l.length else Pool.refs k.pool g
  | [],k,f,_,_,g,_=>by simp only [gone,List.length_nil]; split <;> simp_all
  | p::l,k,f,hk,hl,g,hg=>by
    simp only [List.length_cons] at hl ⊢
    have hr:=refs_fine hk f
    have hne:Pool.refs k.pool f ≠ 0:=by omega
    have hin:=refs_in hne
    have hlets:(Pool.lets k.pool f).2.2 = k.pool.set f.toNat (Pool.refs k.pool f - 1):=by
      unfold Pool.lets; rw [if_neg hne]
      show k.pool.set f.toNat (IntKind.i64.wrap (Pool.refs k.pool f - 1)) = _
      rw [wrapR (by omega) (by omega)]
    have h2:Pool.refs (Pool.lets k.pool f).2.2 f = Pool.refs k.pool f - 1:=by rw [hlets,refs_set hin.1 hin.2 _ _ hin.1,if_pos rfl]
    have ih:=gone_pool l (k:={ k with tabs:=k.tabs.set p.fEnv.toNat (unmap (tab k p.fEnv) p.fSlot),pool:=(Pool.lets k.pool f).2.2 }) f (lets_fine hk f).2 (by show (l.length:Int) ≤ Pool.refs (Pool.lets k.pool f).2.2 f; rw [h2]; omega) g hg
    show Pool.refs (gone _ f l).pool g = _
    rw [ih]
    by_cases e:g = f
    · rw [if_pos e,if_pos e]
      show Pool.refs (Pool.lets k.pool f).2.2 f - _ = _
      rw [h2]; omega
    · rw [if_neg e,if_neg e]
      show Pool.refs (Pool.lets k.pool f).2.2 g = _
      rw [hlets,refs_set hin.1 hin.2 _ _ hg,if_neg e]
end PK
end Go.Proofs.YtemoifebbhoinaaGreatDoor
namespace Go.Proofs.YtemoifebbhoinaaGreatDoor
open Go Mb
theorem idx_spec (a:Int):∀ (xs:List Int) (i:Int),(fu a xs i = -1∧a ∉ xs)∨∃ n:Nat,fu a xs i = i + n∧xs[n]? = some a∧∀ m,m < n→xs[m]? ≠ some a
  | [],_=>.inl ⟨rfl,by simp⟩
  | x::xs,i=>by
    unfold fu
    split
    · rename_i h; subst h
      exact .inr ⟨0,by simp,rfl,fun m hm=>by omega⟩
    · rename_i h
      rcases idx_spec a xs (i + 1) with ⟨h1,h2⟩ | ⟨n,h1,h2,h3⟩
      · exact .inl ⟨h1,by simp [h,h2]⟩
      · refine .inr ⟨n + 1,by rw [h1]; omega,h2,fun m hm=>?_⟩
        cases m with
        | zero=>simp; exact fun e=>h e.symm
        | succ m=>exact h3 m (by omega)
namespace Caps
theorem under_empty {t:T} (ok:Ok t) {p:bV} (h0:(get t p.fEnv p.fSlot).fRights = 0):∀ (n:Nat) (a b:Int),deep 40 t (get t a b) ≤ n→has t a b = true→under t (get t a b) p = false:=by
  intro n
  induction n with
  | zero =>
    intro a b hd hab
    rw [under_step ok hab]
    by_cases hen:(get t a b).fRights ≠ 0∧0 ≤ (get t a b).fEnv
    · have:=deep_step ok hab hen; omega
    · rw [if_neg hen]
  | succ n ih =>
    intro a b hd hab
    rw [under_step ok hab]
    by_cases hen:(get t a b).fRights ≠ 0∧0 ≤ (get t a b).fEnv
    · have hd2:=deep_step ok hab hen
      obtain ⟨p1,p2⟩:=parent_has ok hab hen.1 hen.2
      rw [if_pos hen,if_neg,ih _ _ (by omega) p1]
      rintro ⟨e1,e2⟩
      rw [e1,e2] at p2; exact p2 h0
    · rw [if_neg hen]
theorem cnt_put0 (f:Int) {t:T} (row:∀ r ∈ t,r.length = 8) {e s:Int} (h:has t e s = true) (h0:(get t e s).fRights = 0) {c:Cap} (hc:c.fRights ≠ 0):cnt f (put t e s c) = cnt f t + (if c.fFrame = f then 1 else 0):=by
  have h1:=cnt_put f row h c
  have h2:b2n (isF f (get t e s)) = 0:=by unfold b2n isF; simp [h0]
  have h3:b2n (isF f c) = if c.fFrame = f then 1 else 0:=by unfold b2n isF; by_cases e:c.fFrame = f <;> simp [hc,e]
  omega
end Caps
namespace PK
structure Mv (k k':PK):Prop where
  fine:Fine k'
  s:k'.s = k.s
  keep:∀ e pg,(q k e pg).fRights ≠ 0→(q k' e pg).fRights ≠ 0→Caps.Keep k.caps k'.caps e (q k e pg).fSlot
def Mono (k k':PK):Prop:=∀ e pg,(q k e pg).fRights ≠ 0→q k' e pg = q k e pg
theorem Mv.refl {k:PK} (F:Fine k):Mv k k:=⟨F,rfl,fun _ _ _ _=>Caps.Keep.refl _ _ _⟩
theorem Mono.refl (k:PK):Mono k k:=fun _ _ _=>rfl
theorem has_iff {k:PK} (ok:PK.Ok k) {e s:Int}:Caps.has k.caps e s = true↔off k e = false∧0 ≤ s∧s < 8:=by
  have:=ok.cl
  rw [off_iff]
  unfold Caps.has
  constructor
  · intro h; have:=of_decide_eq_true h; omega
  · intro h; exact decide_eq_true (by omega)
theorem fine_frame {n:Int} {t:Caps.T} (F:eC n t) {e s:Int} (h:Caps.has t e s = true) (hr:(Caps.get t e s).fRights ≠ 0):0 ≤ (Caps.get t e s).fFrame∧(Caps.get t e s).fFrame < n:=by
  rcases F e s h with e1 | e1 | e1
  · rw [e1] at hr; exact absurd rfl hr
  · exact ⟨e1.2.2.2.1,e1.2.2.2.2⟩
  · exact ⟨e1.2.1,e1.2.2.1⟩
theorem mv_put {k k':PK} (F:Fine k) (ok':PK.Ok k') {e s:Int} {c:Cap} (hs:k'.s = k.s) (ht:k'.tabs = k.tabs) (hh:Caps.has k.caps e s = true) (h0:(Caps.get k.caps e s).fRights = 0) (hc:0 ≤ c.fEnv→Caps.has k.caps c.fEnv c.fSlot = true∧(Caps.get k.caps c.fEnv c.fSlot).fRights ≠ 0)
    (hcaps:k'.caps = Caps.put k.caps e s c) (num:∀ f:Int,0 ≤ f→f < k'.s.fFrames→Pool.refs k'.pool f = Caps.cnt f k'.caps):Mv k k'∧Mono k k':=by
  have qs:=q_same ht hs
  have kp:∀ a b,Caps.has k.caps a b = true→(Caps.get k.caps a b).fRights ≠ 0→Caps.Keep k.caps k'.caps a b:=fun a b h1 h2=>by rw [hcaps]; exact Caps.keep_put F.ok.tree hh h0 hc h1 h2
  refine ⟨⟨⟨ok',fun a pg hq=>?_,num⟩,hs,fun a pg hq _=>?_⟩,fun a pg _=>qs a pg⟩
  · rw [qs] at hq ⊢
    obtain ⟨h1,h2,h3⟩:=F.by_ a pg hq
    have hn:(Caps.get k.caps a (q k a pg).fSlot).fRights ≠ 0:=by have:=(dk h3).2; omega
    have:=(kp a _ h1 hn).g
    rw [this]
    exact ⟨by rw [hcaps,Caps.put_has]; exact h1,h2,h3⟩
  · obtain ⟨h1,h2,h3⟩:=F.by_ a pg hq
    exact kp a _ h1 (by have:=(dk h3).2; omega)
theorem pd (t:Caps.T) (e s:Int):(Caps.at_ t e s).2 = true↔Caps.has t e s = true∧(Caps.get t e s).fRights ≠ 0:=by
  unfold Caps.at_; split <;> simp_all
theorem at_of {t:Caps.T} {e s:Int} (h:Caps.has t e s = true) (hr:(Caps.get t e s).fRights ≠ 0):Caps.at_ t e s = (Caps.get t e s,true):=by unfold Caps.at_; rw [if_pos ⟨h,hr⟩]
theorem mv_alloc {k:PK} (F:Fine k) {e s:Int} (hh:Caps.has k.caps e s = true):Mv k (alloc k e s).2∧Mono k (alloc k e s).2:=by
  have oka:=ok_alloc F.ok e s
  unfold alloc at oka ⊢
  split
  · exact ⟨.refl F,.refl k⟩
  · rename_i h1
    rw [if_neg h1] at oka
    split
    · exact ⟨.refl F,.refl k⟩
    · rename_i h2
      rw [if_neg h2] at oka
      have h0:(Caps.get k.caps e s).fRights = 0:=by
        cases Decidable.em ((Caps.get k.caps e s).fRights = 0) with
        | inl h=>exact h
        | inr h=>exact absurd ((pd _ _ _).2 ⟨hh,h⟩) h1
      have ht:=take_in (by simpa using h2)
      have hsz:=fQ.1 F.ok.sz
      have hpl:=F.ok.pl
      have hroot:Caps.root k.caps e s (Pool.take k.pool).1 = (0,Caps.put k.caps e s ⟨(Pool.take k.pool).1,3,-1,0⟩):=by
        unfold Caps.root
        rw [if_neg (by rw [hh]; simp; omega),if_neg (by simp [h0])]
      rw [hroot] at oka ⊢
      refine mv_put F oka rfl rfl hh h0 (fun h=>absurd h (by show ¬ (0:Int) ≤ -1; omega)) rfl fun f f0 f1=>?_
      rcases idx_spec 0 k.pool 0 with ⟨i1,_⟩ | ⟨n,i1,i2,_⟩
      · exfalso; apply h2; unfold Pool.take; rw [if_pos (by rw [i1]; decide)]
      · have htk:Pool.take k.pool = ((n:Int),true,k.pool.set n 1):=by
          unfold Pool.take; rw [if_neg (by rw [i1]; omega),i1]; simp
        rw [htk]
        have hn:=(List.getElem?_eq_some_iff.1 i2).1
        show Pool.refs (k.pool.set n 1) f = (Caps.cnt f (Caps.put k.caps e s ⟨(n:Int),3,-1,0⟩):Int)
        rw [Caps.cnt_put0 f F.ok.tree.row hh h0 (show (3:Int) ≠ 0 by decide)]
        have:=refs_set (p:=k.pool) (i:=(n:Int)) (by omega) (by omega) 1 f f0
        rw [Int.toNat_natCast] at this
        rw [this]
        have hnum:=F.num f f0 f1
        by_cases e1:f = n
        · subst e1
          rw [if_pos rfl,if_pos rfl]
          rw [refs_nn (by omega),Int.toNat_natCast,i2] at hnum
          simp at hnum
          omega
        · rw [if_neg e1,if_neg (by simp; omega),hnum]; simp
theorem mv_derive {k:PK} (F:Fine k) {e src to dst r:Int} (h1:Caps.has k.caps e src = true) (h2:Caps.has k.caps to dst = true):Mv k (derive k e src to dst r).2∧Mono k (derive k e src to dst r).2:=by
  have oka:=ok_derive F.ok e src to dst r
  unfold derive at oka ⊢
  split
  · exact ⟨.refl F,.refl k⟩
  · rename_i h0
    rw [if_neg h0] at oka
    have hd:cg r = true∧(Caps.get k.caps e src).fRights ≠ 0∧(Caps.get k.caps to dst).fRights = 0∧Caps.derive k.caps e src to dst r = (0,Caps.put k.caps to dst ⟨(Caps.get k.caps e src).fFrame,r,e,src⟩):=by
      unfold Caps.derive at h0 ⊢
      split at h0
      · exact absurd (by simp) h0
      · rename_i c1
        rw [if_neg c1]
        split at h0
        · exact absurd (by simp) h0
        · rename_i c2
          rw [if_neg c2]
          split at h0
          · exact absurd (by simp) h0
          · rename_i c3
            rw [if_neg c3]
            split at h0
            · exact absurd (by simp) h0
            · rename_i c4
              rw [if_neg c4]
              simp only [not_or,Bool.not_eq_false] at c1
              exact ⟨c1.2.2,c2,by simpa using c3,rfl⟩
    obtain ⟨hm,hsr,hds,he⟩:=hd
    have hr0:r ≠ 0:=by have:=uz.1 hm; omega
    have hev:0 ≤ e:=((has_iff F.ok).1 h1).1 |> fun h=>(off_iff.1 h).1
    rw [he] at oka ⊢
    have hpg:Caps.get (Caps.put k.caps to dst ⟨(Caps.get k.caps e src).fFrame,r,e,src⟩) to dst = ⟨(Caps.get k.caps e src).fFrame,r,e,src⟩:=by rw [Caps.get_put F.ok.tree.row h2 h2,if_pos ⟨rfl,rfl⟩]
    have hat:Caps.at_ (Caps.put k.caps to dst ⟨(Caps.get k.caps e src).fFrame,r,e,src⟩) to dst = (⟨(Caps.get k.caps e src).fFrame,r,e,src⟩,true):=by
      rw [at_of (by rw [Caps.put_has]; exact h2) (by rw [hpg]; exact hr0),hpg]
    have hc:0 ≤ e→Caps.has k.caps e src = true∧(Caps.get k.caps e src).fRights ≠ 0:=fun _=>⟨h1,hsr⟩
    have hfr:=fine_frame F.ok.fine h1 hsr
    have hpos:=Caps.cnt_pos F.ok.tree.row h1 hsr rfl
    have hnum:=F.num _ hfr.1 hfr.2
    simp only [hat] at oka ⊢
    split
    · rename_i h3
      have okp:=Caps.ok_put F.ok.tree h2 hds ⟨(Caps.get k.caps e src).fFrame,r,e,src⟩ hc
      have hleaf:Caps.drop (Caps.put k.caps to dst ⟨(Caps.get k.caps e src).fFrame,r,e,src⟩) to dst = (([⟨to,dst⟩],0),k.caps):=by
        have ho:Caps.own (Caps.put k.caps to dst ⟨(Caps.get k.caps e src).fFrame,r,e,src⟩) to dst = [⟨to,dst⟩]:=by
          refine Caps.own_leaf okp (by rw [Caps.put_has]; exact h2) (by rw [hpg]; exact hr0) fun a b hab hne=>?_
          rw [Caps.put_has] at hab
          by_cases hs:a = to∧b = dst
          · obtain ⟨rfl,rfl⟩:=hs
            exact Caps.not_under_self okp (by rw [Caps.put_has]; exact h2)
          · have hg:Caps.get (Caps.put k.caps to dst ⟨(Caps.get k.caps e src).fFrame,r,e,src⟩) a b = Caps.get k.caps a b:=by rw [Caps.get_put F.ok.tree.row h2 hab,if_neg hs]
            rw [hg] at hne ⊢
            rw [Caps.under_put F.ok.tree h2 hds hc _ _ a b (Nat.le_refl _) hab hne]
            exact Caps.under_empty F.ok.tree (p:=⟨to,dst⟩) hds _ a b (Nat.le_refl _) hab
        have hlook:Caps.look (Caps.put k.caps to dst ⟨(Caps.get k.caps e src).fFrame,r,e,src⟩) to dst = 0:=by
          unfold Caps.look; rw [if_neg (by rw [Caps.put_has,h2]; simp),if_neg (by rw [hpg]; exact hr0)]
        unfold Caps.drop
        rw [if_neg (by rw [hlook]; simp),ho]
        show ((_,_),Caps.put (Caps.put k.caps to dst _) to dst mo) = _
        rw [Caps.put_put _ _ h2,← Caps.cap_zero F.ok.fine h2 hds,Caps.put_self F.ok.tree.row h2]
      rw [hleaf]
      exact ⟨.refl F,.refl k⟩
    · rename_i h3
      rw [if_neg h3] at oka
      refine mv_put F oka rfl rfl h2 hds hc rfl fun f f0 f1=>?_
      have hh:Pool.hold k.pool (Caps.get k.caps e src).fFrame = (true,k.pool.set (Caps.get k.caps e src).fFrame.toNat (Pool.refs k.pool (Caps.get k.caps e src).fFrame + 1)):=by
        unfold Pool.hold at h3 ⊢
        split at h3
        · exact absurd rfl h3
        · rename_i c1
          have hrf:=refs_fine F.ok.pr (Caps.get k.caps e src).fFrame
          rw [if_neg c1,wrapR (by omega) (by omega)]
      rw [hh]
      show Pool.refs (k.pool.set _ _) f = (Caps.cnt f (Caps.put k.caps to dst _):Int)
      rw [Caps.cnt_put0 f F.ok.tree.row h2 hds (show r ≠ 0 from hr0)]
      have hpl:=F.ok.pl
      rw [refs_set hfr.1 (by omega) _ f f0]
      have hnf:=F.num f f0 f1
      by_cases e1:f = (Caps.get k.caps e src).fFrame
      · rw [if_pos e1,if_pos e1.symm,← e1,hnf]; simp
      · rw [if_neg e1,if_neg (fun h=>e1 h.symm),hnf]; simp
end PK
end Go.Proofs.YtemoifebbhoinaaGreatDoor
namespace Go.Proofs.YtemoifebbhoinaaGreatDoor
open Go Mb
namespace PK
theorem goers_frame {k:PK} (F:Fine k) {e s:Int} {w:Bool} (h:Caps.has k.caps e s = true) (hn:(Caps.get k.caps e s).fRights ≠ 0) {p:bV} (hp:p ∈ Caps.goers k.caps e s w):(Caps.get k.caps p.fEnv p.fSlot).fFrame = (Caps.get k.caps e s).fFrame:=by
  obtain ⟨h1,h2,h3⟩:=(Caps.mem_goers F.ok.tree h hn).1 hp
  rcases h3 with ⟨_,rfl⟩ | h3
  · rfl
  · exact Caps.under_frame F.ok.tree F.ok.fine _ _ _ (Nat.le_refl _) h1 _ h3
theorem revoke_eq {k:PK} (F:Fine k) {e s:Int} {w:Bool} (h:Caps.has k.caps e s = true) (hn:(Caps.get k.caps e s).fRights ≠ 0) :
    revoke k e s w = (⟨0,IntKind.u64.wrap (Caps.goers k.caps e s w).length⟩,gone { k with caps:=Caps.empties k.caps (Caps.goers k.caps e s w) } (Caps.get k.caps e s).fFrame (Caps.goers k.caps e s w)):=by
  have hlook:Caps.look k.caps e s = 0:=by unfold Caps.look; rw [if_neg (by rw [h]; simp),if_neg hn]
  have hrv:Caps.revoke k.caps e s = ((Caps.below k.caps e s,0),Caps.empties k.caps (Caps.below k.caps e s)):=by unfold Caps.revoke; rw [if_neg (by rw [hlook]; simp)]
  unfold revoke
  rw [hrv,if_neg (by simp),at_of h hn]
  cases w with
  | true =>
    rw [if_pos rfl]
    simp only [Caps.drop_after F.ok.tree h hn]
    unfold Caps.goers
    rw [if_pos rfl]
  | false =>
    rw [if_neg Bool.false_ne_true]
    unfold Caps.goers
    rw [if_neg Bool.false_ne_true]
theorem revoke_no {k:PK} {e s:Int} {w:Bool} (h:Caps.has k.caps e s = true) (hn:(Caps.get k.caps e s).fRights = 0):revoke k e s w = (⟨3,0⟩,k):=by
  have hlook:Caps.look k.caps e s = 3:=by unfold Caps.look; rw [if_neg (by rw [h]; simp),if_pos hn]
  have hrv:Caps.revoke k.caps e s = (([],3),k.caps):=by unfold Caps.revoke; rw [if_pos (by rw [hlook]; simp),hlook]
  unfold revoke
  rw [hrv,if_pos (by simp)]
theorem revoke_q {k:PK} (F:Fine k) {e s:Int} {w:Bool} (h:Caps.has k.caps e s = true) (hn:(Caps.get k.caps e s).fRights ≠ 0) (a pg:Int) :
    q (revoke k e s w).2 a pg = if (q k a pg).fRights ≠ 0∧(⟨a,(q k a pg).fSlot⟩:bV) ∈ Caps.goers k.caps e s w then dh else q k a pg:=by
  rw [revoke_eq F h hn]
  have ok1:=ok_caps F.ok (t:=Caps.empties k.caps (Caps.goers k.caps e s w)) (Caps.empties_len _ _) (Caps.ok_empties F.ok.tree (Caps.goers_has F.ok.tree h hn) (Caps.goers_cl F.ok.tree h hn)) (Caps.fine_empties F.ok.tree F.ok.fine (Caps.goers_has F.ok.tree h hn) (Caps.goers_cl F.ok.tree h hn))
  exact gone_q _ ok1 _ (fun p hp=>((has_iff F.ok).1 (Caps.goers_has F.ok.tree h hn p hp)).1) a pg
theorem mv_revoke {k:PK} (F:Fine k) {e s:Int} {w:Bool} (h:Caps.has k.caps e s = true):Mv k (revoke k e s w).2:=by
  by_cases hn:(Caps.get k.caps e s).fRights = 0
  · rw [revoke_no h hn]; exact .refl F
  have okr:=ok_revoke F.ok e s w
  have hq:=revoke_q F (w:=w) h hn
  rw [revoke_eq F h hn] at okr hq ⊢
  have hgs:=gone_same (Caps.goers k.caps e s w) { k with caps:=Caps.empties k.caps (Caps.goers k.caps e s w) } (Caps.get k.caps e s).fFrame
  have hcl:=Caps.goers_cl F.ok.tree (w:=w) h hn
  have hhas:=Caps.goers_has F.ok.tree (w:=w) h hn
  have hcaps:(gone { k with caps:=Caps.empties k.caps (Caps.goers k.caps e s w) } (Caps.get k.caps e s).fFrame (Caps.goers k.caps e s w)).caps = Caps.empties k.caps (Caps.goers k.caps e s w):=hgs.1
  have hss:(gone { k with caps:=Caps.empties k.caps (Caps.goers k.caps e s w) } (Caps.get k.caps e s).fFrame (Caps.goers k.caps e s w)).s = k.s:=hgs.2.1
  have keep:∀ a pg,(q k a pg).fRights ≠ 0→(⟨a,(q k a pg).fSlot⟩:bV) ∉ Caps.goers k.caps e s w→Caps.Keep k.caps (Caps.empties k.caps (Caps.goers k.caps e s w)) a (q k a pg).fSlot:=fun a pg h1 h2=>by
    obtain ⟨b1,b2,b3⟩:=F.by_ a pg h1
    exact Caps.keep_empties F.ok.tree hhas hcl b1 (by have:=(dk b3).2; omega) h2
  refine ⟨⟨okr,fun a pg hne=>?_,fun f f0 f1=>?_⟩,hss,fun a pg h1 h2=>?_⟩
  · simp only at hne ⊢
    rw [hcaps]
    have hq':q (gone { k with caps:=Caps.empties k.caps (Caps.goers k.caps e s w) } (Caps.get k.caps e s).fFrame (Caps.goers k.caps e s w)) a pg = _:=hq a pg
    rw [hq'] at hne ⊢
    split at hne
    · exact absurd rfl hne
    · rename_i hc
      rw [if_neg hc]
      obtain ⟨b1,b2,b3⟩:=F.by_ a pg hne
      have:=(keep a pg hne (fun hm=>hc ⟨hne,hm⟩)).g
      rw [this]
      exact ⟨by rw [Caps.empties_has]; exact b1,b2,b3⟩
  · simp only at f1 ⊢
    rw [hss] at f1
    rw [hcaps]
    have hfr:=fine_frame F.ok.fine h hn
    have hcnt:=Caps.cnt_empties f (Caps.goers k.caps e s w) F.ok.tree.row (Caps.goers_nd F.ok.tree h) (fun p hp=>⟨hhas p hp,((Caps.mem_goers F.ok.tree h hn).1 hp).2.1⟩)
    have hcnt0:=Caps.cnt_empties (Caps.get k.caps e s).fFrame (Caps.goers k.caps e s w) F.ok.tree.row (Caps.goers_nd F.ok.tree h) (fun p hp=>⟨hhas p hp,((Caps.mem_goers F.ok.tree h hn).1 hp).2.1⟩)
    have hall:(Caps.goers k.caps e s w).countP (fun p=>decide ((Caps.get k.caps p.fEnv p.fSlot).fFrame = (Caps.get k.caps e s).fFrame)) = (Caps.goers k.caps e s w).length:=by
      rw [List.countP_eq_length]
      intro p hp
      simp [goers_frame F h hn hp]
    rw [hall] at hcnt0
    have hnum0:=F.num _ hfr.1 hfr.2
    have hp:=gone_pool (Caps.goers k.caps e s w) (k:={ k with caps:=Caps.empties k.caps (Caps.goers k.caps e s w) }) (Caps.get k.caps e s).fFrame F.ok.pr (by show _ ≤ Pool.refs k.pool _; rw [hnum0]; omega) f f0
    rw [hp]
    by_cases e1:f = (Caps.get k.caps e s).fFrame
    · rw [if_pos e1]
      subst e1
      show Pool.refs k.pool _ - _ = _
      rw [hnum0]; omega
    · rw [if_neg e1]
      have hz:(Caps.goers k.caps e s w).countP (fun p=>decide ((Caps.get k.caps p.fEnv p.fSlot).fFrame = f)) = 0:=by
        rw [List.countP_eq_zero]
        intro p hp
        rw [goers_frame F h hn hp]
        simp; exact fun h=>e1 h.symm
      rw [hz] at hcnt
      show Pool.refs k.pool f = _
      rw [F.num f f0 f1]; omega
  · simp only at h2 ⊢
    rw [hcaps]
    have hq':q (gone { k with caps:=Caps.empties k.caps (Caps.goers k.caps e s w) } (Caps.get k.caps e s).fFrame (Caps.goers k.caps e s w)) a pg = _:=hq a pg
    rw [hq'] at h2
    split at h2
    · exact absurd rfl h2
    · rename_i hc
      exact keep a pg h1 (fun hm=>hc ⟨h1,hm⟩)
theorem mv_tabs {k k':PK} (F:Fine k) (ok':PK.Ok k') (hs:k'.s = k.s) (hc:k'.caps = k.caps) (hp:k'.pool = k.pool) (h:∀ a pg,(q k' a pg).fRights ≠ 0→Caps.has k.caps a (q k' a pg).fSlot = true∧(Caps.get k.caps a (q k' a pg).fSlot).fFrame = (q k' a pg).fFrame∧aQ (q k' a pg).fRights (Caps.get k.caps a (q k' a pg).fSlot).fRights = true):Mv k k' :=
  ⟨⟨ok',fun a pg hne=>by rw [hc]; exact h a pg hne,fun f f0 f1=>by rw [hc,hp]; exact F.num f f0 (by rw [← hs]; exact f1)⟩,hs,fun a pg _ _=>by rw [hc]; exact Caps.Keep.refl _ _ _⟩
theorem mv_maps {k:PK} (F:Fine k) {e pg s r:Int} (he:off k e = false) (h:Caps.has k.caps e s = true):Mv k (maps k e pg s r).2∧Mono k (maps k e pg s r).2:=by
  have okm:=ok_maps F.ok e pg s r
  unfold maps at okm ⊢
  split
  · exact ⟨.refl F,.refl k⟩
  · rename_i h1
    rw [if_neg h1] at okm
    split
    · exact ⟨.refl F,.refl k⟩
    · rename_i h2
      rw [if_neg h2] at okm
      split
      · exact ⟨.refl F,.refl k⟩
      · rename_i h3
        rw [if_neg h3] at okm
        have hc:(Caps.get k.caps e s).fRights ≠ 0:=((pd _ _ _).1 (by simpa using h1)).2
        rw [at_of h hc] at okm h3 ⊢
        have hl:=(tab_in F.ok he).2
        have hg0:(Table.get (tab k e) pg).2 = false:=by simpa using h2
        have key:∀ a p,q { k with tabs:=k.tabs.set e.toNat (Table.insert (tab k e) pg ⟨(Caps.get k.caps e s).fFrame,s,r⟩).2 } a p = q k a p∨((a = e∧p = pg)∧q { k with tabs:=k.tabs.set e.toNat (Table.insert (tab k e) pg ⟨(Caps.get k.caps e s).fFrame,s,r⟩).2 } a p = ⟨(Caps.get k.caps e s).fFrame,s,r⟩):=by
          intro a p
          rw [q_tabs F.ok he]
          by_cases ha:a = e
          · subst ha
            rw [if_pos rfl]
            by_cases hz:(Table.insert (tab k a) pg ⟨(Caps.get k.caps a s).fFrame,s,r⟩).1 = 0
            · rw [Table.get_insert hl _ _ hz]
              by_cases hp:p = pg
              · subst hp
                rw [if_pos rfl]
                exact .inr ⟨⟨rfl,rfl⟩,rfl⟩
              · rw [if_neg hp,uo he]; exact .inl rfl
            · rw [Table.insert_same _ _ hz,uo he]; exact .inl rfl
          · rw [if_neg ha]; exact .inl rfl
        refine ⟨mv_tabs F okm rfl rfl rfl fun a p hne=>?_,fun a p hne=>?_⟩
        · simp only at hne ⊢
          rcases key a p with e1 | ⟨⟨rfl,rfl⟩,e1⟩
          · rw [e1] at hne ⊢; exact F.by_ a p hne
          · rw [e1]
            exact ⟨h,rfl,by simpa using h3⟩
        · simp only
          rcases key a p with e1 | ⟨⟨rfl,rfl⟩,e1⟩
          · exact e1
          · exfalso
            rw [uo he] at hne
            rw [Table.get_snd] at hg0
            exact hne (by simpa using hg0)
theorem remove_q {k:PK} (ok:PK.Ok k) {e pg:Int} (he:off k e = false) (a p:Int):q (remove k e pg).2 a p = if e = a∧pg = p then dh else q k a p:=by
  unfold remove
  show q { k with tabs:=k.tabs.set e.toNat (Table.remove (tab k e) pg).2 } a p = _
  rw [q_tabs ok he]
  by_cases ha:a = e
  · subst ha
    rw [if_pos rfl,Table.get_remove (tab_in ok he).2]
    by_cases hp:p = pg
    · subst hp; rw [if_pos rfl,if_pos ⟨rfl,rfl⟩]
    · rw [if_neg hp,if_neg (fun h=>hp h.2.symm),uo he]
  · rw [if_neg ha,if_neg (fun h=>ha h.1.symm)]
theorem mv_remove {k:PK} (F:Fine k) {e pg:Int} (he:off k e = false):Mv k (remove k e pg).2:=by
  refine mv_tabs F (ok_remove F.ok e pg) rfl rfl rfl fun a p hne=>?_
  rw [remove_q F.ok he] at hne ⊢
  split at hne
  · exact absurd rfl hne
  · rename_i hc; rw [if_neg hc]; exact F.by_ a p hne
def mayP (k:PK) (e pg r:Int):Prop:=(q k e pg).fRights ≠ 0∧aQ r (Caps.get k.caps e (q k e pg).fSlot).fRights = true
instance (k:PK) (e pg r:Int):Decidable (mayP k e pg r):=by unfold mayP; infer_instance
theorem protect_q {k:PK} (F:Fine k) {e pg r:Int} (he:off k e = false) (a p:Int):q (protect k e pg r).2 a p = if (e = a∧pg = p)∧mayP k e pg r then { q k a p with fRights:=r } else q k a p:=by
  unfold protect
  by_cases h1:(Table.get (tab k e) pg).2 = false
  · rw [if_pos h1,if_neg]
    rintro ⟨_,h2,_⟩
    rw [uo he] at h2
    rw [Table.get_snd] at h1
    exact h2 (by simpa using h1)
  · rw [if_neg h1]
    have h1':(Table.get (tab k e) pg).2 = true:=by simpa using h1
    have hq:(q k e pg).fRights ≠ 0:=by rw [uo he]; rw [Table.get_snd] at h1'; simpa using h1'
    have hb:=F.by_ e pg hq
    rw [uo he] at hb
    have hat:=at_of hb.1 (by have:=(dk hb.2.2).2; omega)
    rw [hat]
    by_cases h2:aQ r (Caps.get k.caps e (Table.get (tab k e) pg).1.fSlot).fRights = false
    · rw [if_pos h2,if_neg]
      rintro ⟨_,_,h3⟩
      rw [uo he,h2] at h3; cases h3
    · rw [if_neg h2]
      have h2':aQ r (Caps.get k.caps e (Table.get (tab k e) pg).1.fSlot).fRights = true:=by simpa using h2
      show q { k with tabs:=k.tabs.set e.toNat (Table.protect (tab k e) pg r).2 } a p = _
      have hm:mayP k e pg r:=⟨hq,by rw [uo he]; exact h2'⟩
      have hr:cg r = true:=by have:=(dk h2').1; exact uz.2 this
      rw [q_tabs F.ok he]
      by_cases ha:a = e
      · subst ha
        rw [if_pos rfl,Table.get_protect (tab_in F.ok he).2 _ _ _ h1' hr]
        by_cases hp:p = pg
        · subst hp; rw [if_pos rfl,if_pos ⟨⟨rfl,rfl⟩,hm⟩,uo he]
        · rw [if_neg hp,if_neg (fun h=>hp h.1.2.symm),uo he]
      · rw [if_neg ha,if_neg (fun h=>ha h.1.1.symm)]
theorem mv_protect {k:PK} (F:Fine k) {e pg r:Int} (he:off k e = false):Mv k (protect k e pg r).2:=by
  have hcp:(protect k e pg r).2.caps = k.caps∧(protect k e pg r).2.s = k.s∧(protect k e pg r).2.pool = k.pool:=by
    unfold protect
    split
    · exact ⟨rfl,rfl,rfl⟩
    · split <;> exact ⟨rfl,rfl,rfl⟩
  refine mv_tabs F (ok_protect F.ok e pg r) hcp.2.1 hcp.1 hcp.2.2 fun a p hne=>?_
  rw [protect_q F he] at hne ⊢
  split at hne
  · rename_i hc
    obtain ⟨⟨rfl,rfl⟩,h1,h2⟩:=hc
    rw [if_pos ⟨⟨rfl,rfl⟩,h1,h2⟩]
    have hb:=F.by_ e pg h1
    exact ⟨hb.1,hb.2.1,h2⟩
  · rename_i hc; rw [if_neg hc]; exact F.by_ a p hne
theorem mv_touch {k:PK} (F:Fine k) (f:Int) (c:dc):Mv k (touch k f c).2∧Mono k (touch k f c).2:=by
  have h:=touch_same k f c
  have qs:=q_same h.2.1 h.2.2.2
  exact ⟨⟨fine_touch F f c,h.2.2.2,fun a pg _ _=>by rw [h.1]; exact Caps.Keep.refl _ _ _⟩,fun a pg _=>qs a pg⟩
theorem mv_user {k:PK} (F:Fine k) (e:Int) (c:dc):Mv k (user k e c).2∧Mono k (user k e c).2:=by
  unfold user
  split
  · exact ⟨.refl F,.refl k⟩
  · exact mv_touch F _ _
end PK
end Go.Proofs.YtemoifebbhoinaaGreatDoor
namespace Go.Proofs.YtemoifebbhoinaaGreatDoor
open Go Mb
def Tk (c:dc):Prop:=c.e0 = 4∨c.e0 = 5∨c.e0 = 7∨c.e0 = 8
instance (c:dc):Decidable (Tk c):=by unfold Tk; infer_instance
namespace PK
def gz (k:PK) (e:Int) (c:dc) (a s:Int):Bool :=
  if c.e0 = 5∧a = e∧s = c.e1 then true else if Caps.has k.caps a s = true then Caps.under k.caps (Caps.get k.caps a s) ⟨e,c.e1⟩ else false
def aft (k:PK) (e:Int) (c:dc) (a pg:Int):Pte :=
  if c.e0 = 7 then (if e = a∧c.e1 = pg then dh else q k a pg)
  else if c.e0 = 8 then (if (e = a∧c.e1 = pg)∧mayP k e pg c.e2 then { q k a pg with fRights:=c.e2 } else q k a pg)
  else if (q k a pg).fRights ≠ 0∧gz k e c a (q k a pg).fSlot = true then dh else q k a pg
theorem envs_of {k:PK} (ok:PK.Ok k):1 ≤ k.s.fEnvs∧k.s.fEnvs ≤ 4:=by have:=fQ.1 ok.sz; omega
theorem do_bad {k:PK} {e:Int} {c:dc} (h:off k e = true∨Word.check c k.s.fEnvs ≠ 0):(do_ k e c).2 = k∧(do_ k e c).1.2 = true∧(do_ k e c).1.1 = ⟨if off k e = true then 10 else Word.check c k.s.fEnvs,0⟩:=by
  unfold do_
  by_cases h1:off k e = true
  · rw [if_pos h1,if_pos h1]; exact ⟨rfl,rfl,rfl⟩
  · rw [if_neg h1,if_neg h1,if_pos (h.resolve_left h1)]; exact ⟨rfl,rfl,rfl⟩
theorem do_good {k:PK} {e:Int} {c:dc} (h1:off k e = false) (h2:Word.check c k.s.fEnvs = 0):do_ k e c = does k e c:=by
  unfold do_; rw [if_neg (by rw [h1]; simp),if_neg (by rw [h2]; simp)]
theorem w0 {n:Int} {c:dc} (w:Well n c):IntKind.i64.wrap c.e0 = c.e0:=bR (by have:=w.kind; omega) (by have:=w.kind; omega)
theorem gz_goers {k:PK} (F:Fine k) {e:Int} {c:dc} (hc:c.e0 = 4∨c.e0 = 5) (h:Caps.has k.caps e c.e1 = true) (hn:(Caps.get k.caps e c.e1).fRights ≠ 0) {a s:Int} (ha:Caps.has k.caps a s = true) (hr:(Caps.get k.caps a s).fRights ≠ 0) :
    gz k e c a s = true↔(⟨a,s⟩:bV) ∈ Caps.goers k.caps e c.e1 (decide (c.e0 = 5)):=by
  rw [Caps.mem_goers F.ok.tree h hn]
  unfold gz
  rw [if_pos ha]
  by_cases h5:c.e0 = 5∧a = e∧s = c.e1
  · rw [if_pos h5]
    obtain ⟨h51,rfl,rfl⟩:=h5
    simp [h51,ha,hr]
  · rw [if_neg h5]
    constructor
    · exact fun hu=>⟨ha,hr,.inr hu⟩
    · rintro ⟨_,_,⟨h1,h2⟩ | h1⟩
      · exact absurd ⟨of_decide_eq_true h1,congrArg aF.fEnv h2,congrArg aF.fSlot h2⟩ h5
      · exact h1
theorem gz_empty {k:PK} (F:Fine k) {e:Int} {c:dc} (hn:(Caps.get k.caps e c.e1).fRights = 0) {a s:Int} (ha:Caps.has k.caps a s = true) (hr:(Caps.get k.caps a s).fRights ≠ 0):gz k e c a s = false:=by
  unfold gz
  rw [if_neg,if_pos ha]
  · exact Caps.under_empty F.ok.tree (p:=⟨e,c.e1⟩) hn _ a s (Nat.le_refl _) ha
  · rintro ⟨_,rfl,rfl⟩
    exact hr hn
theorem does_revoke {k:PK} {e:Int} {c:dc} (w:Well k.s.fEnvs c) (cw:Cw c) (hc:c.e0 = 4∨c.e0 = 5):does k e c = (((revoke k e c.e1 (decide (c.e0 = 5))).1,true),(revoke k e c.e1 (decide (c.e0 = 5))).2):=by
  have h1:IntKind.i64.wrap c.e1 = c.e1:=kwr cw.c1 (by have:=w.w1 (by omega); omega)
  unfold does
  rw [w0 w,h1]
  rcases hc with h | h <;> simp [h]
theorem do_q {k:PK} (F:Fine k) {e:Int} {c:dc} (cw:Cw c) (he:off k e = false) (hk:Word.check c k.s.fEnvs = 0) (ht:Tk c) (a pg:Int):q (do_ k e c).2 a pg = aft k e c a pg:=by
  have w:=tL (envs_of F.ok).1 (envs_of F.ok).2 hk
  have h1:IntKind.i64.wrap c.e1 = c.e1:=kwr cw.c1 (by have:=w.w1 (by unfold Tk at ht; omega); omega)
  rw [do_good he hk]
  have h45:c.e0 = 4∨c.e0 = 5→q (does k e c).2 a pg = aft k e c a pg:=by
    intro h
    rw [does_revoke w cw h]
    unfold aft
    rw [if_neg (by omega),if_neg (by omega)]
    have hh:Caps.has k.caps e c.e1 = true:=(has_iff F.ok).2 ⟨he,cw.c1,by have:=w.w1 (by omega); omega⟩
    by_cases hn:(Caps.get k.caps e c.e1).fRights = 0
    · rw [revoke_no hh hn,if_neg]
      rintro ⟨a1,a2⟩
      have hb:=F.by_ a pg a1
      rw [gz_empty F hn hb.1 (by have:=(dk hb.2.2).2; omega)] at a2
      cases a2
    · show q (revoke k e c.e1 _).2 a pg = _
      rw [revoke_q F hh hn]
      by_cases hz:(q k a pg).fRights ≠ 0
      · have hb:=F.by_ a pg hz
        have:=gz_goers F h hh hn hb.1 (by have:=(dk hb.2.2).2; omega)
        by_cases hg:gz k e c a (q k a pg).fSlot = true
        · rw [if_pos ⟨hz,this.1 hg⟩,if_pos ⟨hz,hg⟩]
        · rw [if_neg (fun x=>hg (this.2 x.2)),if_neg (fun x=>hg x.2)]
      · rw [if_neg (fun x=>hz x.1),if_neg (fun x=>hz x.1)]
  rcases ht with h | h | h | h
  · exact h45 (.inl h)
  · exact h45 (.inr h)
  · unfold aft
    rw [if_pos h]
    have:does k e c = errs (remove k e c.e1):=by unfold does; rw [w0 w,h1]; simp [h]
    rw [this]
    exact remove_q F.ok he a pg
  · unfold aft
    rw [if_neg (by omega),if_pos h]
    have h2:IntKind.i64.wrap c.e2 = c.e2:=kwr cw.c2 (by have:=w.w5 h; omega)
    have:does k e c = errs (protect k e c.e1 c.e2):=by unfold does; rw [w0 w,h1,h2]; simp [h]
    rw [this]
    have hp:=protect_q F he (pg:=c.e1) (r:=c.e2) a pg
    show q (protect k e c.e1 c.e2).2 a pg = _
    rw [hp]
    by_cases hc:e = a∧c.e1 = pg
    · obtain ⟨rfl,rfl⟩:=hc; rfl
    · rw [if_neg (fun x=>hc x.1),if_neg (fun x=>hc x.1)]
theorem do_mv {k:PK} (F:Fine k) {e:Int} {c:dc} (cw:Cw c):Mv k (do_ k e c).2∧(¬ Tk c→Mono k (do_ k e c).2):=by
  by_cases hb:off k e = true∨Word.check c k.s.fEnvs ≠ 0
  · rw [(do_bad hb).1]; exact ⟨.refl F,fun _=>.refl k⟩
  · simp only [not_or,Bool.not_eq_true,Decidable.not_not] at hb
    obtain ⟨he,hk⟩:=hb
    have w:=tL (envs_of F.ok).1 (envs_of F.ok).2 hk
    rw [do_good he hk]
    have hs1:c.e0 ≠ 10→IntKind.i64.wrap c.e1 = c.e1∧c.e1 < 8:=fun h=>⟨kwr cw.c1 (by have:=w.w1 h; omega),w.w1 h⟩
    have hh1:c.e0 ≠ 10→Caps.has k.caps e c.e1 = true:=fun h=>(has_iff F.ok).2 ⟨he,cw.c1,(hs1 h).2⟩
    have c1:c.e0 = 1∨c.e0 = 2∨c.e0 = 3∨c.e0 = 4∨c.e0 = 5∨c.e0 = 6∨c.e0 = 7∨c.e0 = 8∨c.e0 = 9∨c.e0 = 10∨20 ≤ c.e0:=by have:=w.kind; omega
    rcases c1 with h | h | h | h | h | h | h | h | h | h | h
    · have e1:does k e c = errs (alloc k e c.e1):=by unfold does; rw [w0 w,(hs1 (by omega)).1]; simp [h]
      rw [e1]
      have:=mv_alloc F (hh1 (by omega))
      exact ⟨this.1,fun _=>this.2⟩
    · have h2:=w.w2 (.inl h)
      have h4:=w.w4 (.inl h)
      have e1:does k e c = errs (derive k e c.e1 e c.e2 c.e3):=by unfold does; rw [w0 w,(hs1 (by omega)).1,kwr cw.c2 (by omega),kwr cw.c3 (by omega)]; simp [h]
      rw [e1]
      have:=mv_derive F (r:=c.e3) (hh1 (by omega)) ((has_iff F.ok).2 ⟨he,cw.c2,by omega⟩)
      exact ⟨this.1,fun _=>this.2⟩
    · have h3:=w.w3 h
      have e1:does k e c = errs (derive k e c.e1 c.e2 c.e3 c.e4):=by
        unfold does; rw [w0 w,(hs1 (by omega)).1,kwr cw.c2 (by have:=(envs_of F.ok).2; omega),kwr cw.c3 (by omega),kwr cw.c4 (by omega)]; simp [h]
      rw [e1]
      have:=mv_derive F (r:=c.e4) (hh1 (by omega)) ((has_iff F.ok (e:=c.e2) (s:=c.e3)).2 ⟨off_iff.2 ⟨cw.c2,h3.1⟩,cw.c3,by omega⟩)
      exact ⟨this.1,fun _=>this.2⟩
    · rw [does_revoke w cw (.inl h)]
      exact ⟨mv_revoke F (hh1 (by omega)),fun hn=>absurd (.inl h) hn⟩
    · rw [does_revoke w cw (.inr h)]
      exact ⟨mv_revoke F (hh1 (by omega)),fun hn=>absurd (.inr (.inl h)) hn⟩
    · have h2:=w.w2 (.inr h)
      have h4:=w.w4 (.inr h)
      have e1:does k e c = errs (maps k e c.e1 c.e2 c.e3):=by unfold does; rw [w0 w,(hs1 (by omega)).1,kwr cw.c2 (by omega),kwr cw.c3 (by omega)]; simp [h]
      rw [e1]
      have:=mv_maps F (pg:=c.e1) (s:=c.e2) (r:=c.e3) he ((has_iff F.ok).2 ⟨he,cw.c2,by omega⟩)
      exact ⟨this.1,fun _=>this.2⟩
    · have e1:does k e c = errs (remove k e c.e1):=by unfold does; rw [w0 w,(hs1 (by omega)).1]; simp [h]
      rw [e1]
      exact ⟨mv_remove F he,fun hn=>absurd (.inr (.inr (.inl h))) hn⟩
    · have h5:=w.w5 h
      have e1:does k e c = errs (protect k e c.e1 c.e2):=by unfold does; rw [w0 w,(hs1 (by omega)).1,kwr cw.c2 (by omega)]; simp [h]
      rw [e1]
      exact ⟨mv_protect F he,fun hn=>absurd (.inr (.inr (.inr h))) hn⟩
    · have e1:does k e c = (sleep k e c,k):=by unfold does; rw [w0 w]; simp [h]
      rw [e1]; exact ⟨.refl F,fun _=>.refl k⟩
    · have e1:does k e c = ((⟨0,0⟩,true),k):=by unfold does; rw [w0 w]; simp [h]
      rw [e1]; exact ⟨.refl F,fun _=>.refl k⟩
    · have e1:does k e c = (((user k e c).1,true),(user k e c).2):=by
        unfold does; rw [w0 w]
        rw [if_neg (by omega),if_neg (by omega),if_neg (by omega),if_neg (by omega),if_neg (by omega),if_neg (by omega),if_neg (by omega),if_neg (by omega),if_neg (by omega),if_neg (by omega)]
      rw [e1]
      have:=mv_user F e c
      exact ⟨this.1,fun _=>this.2⟩
end PK
end Go.Proofs.YtemoifebbhoinaaGreatDoor
namespace Go.Proofs.YtemoifebbhoinaaGreatDoor
open Go Mb
namespace Tlb
theorem ln_set {ls:List TL} (hl:ls.length = 8) {n:Nat} (hn:n < 8) (y:TL) (i:Nat):ln (ls.set n y) i = if i = n then y else ln ls i:=by
  simp only [ln,List.getD_eq_getElem?_getD,List.getElem?_set]
  by_cases e:n = i
  · subst e; simp [hl,hn]
  · rw [if_neg e,if_neg (fun h=>e h.symm)]
abbrev bs (p:Int):Nat:=(p.tmod 4).toNat * 2
theorem bs_lt {p:Int} (h:0 ≤ p):bs p + 1 < 8:=by
  obtain ⟨q,h1,h2⟩:=tmod4 h
  unfold bs; rw [h1]; simp; omega
theorem at_iff {ls:List TL} {e p:Int} {n:Nat}:at_ ls e p = some n↔(0 ≤ e∧0 ≤ p∧p < 8)∧(n = bs p∧hit ls e p (bs p)∨n = bs p + 1∧hit ls e p (bs p + 1)∧¬ hit ls e p (bs p)):=by
  unfold at_
  by_cases h:e < 0∨p < 0∨p ≥ 8
  · rw [if_pos h]
    constructor
    · intro x; cases x
    · rintro ⟨x,_⟩; omega
  · rw [if_neg h]
    by_cases h1:hit ls e p (bs p)
    · rw [if_pos h1]
      constructor
      · intro x; cases x; exact ⟨by omega,.inl ⟨rfl,h1⟩⟩
      · rintro ⟨_,⟨rfl,_⟩ | ⟨_,_,h2⟩⟩
        · rfl
        · exact absurd h1 h2
    · rw [if_neg h1]
      by_cases h2:hit ls e p (bs p + 1)
      · rw [if_pos h2]
        constructor
        · intro x; cases x; exact ⟨by omega,.inr ⟨rfl,h2,h1⟩⟩
        · rintro ⟨_,⟨_,h3⟩ | ⟨rfl,_⟩⟩
          · exact absurd h3 h1
          · rfl
      · rw [if_neg h2]
        constructor
        · intro x; cases x
        · rintro ⟨_,⟨_,h3⟩ | ⟨_,h3,_⟩⟩
          · exact absurd h3 h1
          · exact absurd h3 h2
theorem at_hit {ls:List TL} {e p:Int} {n:Nat} (h:at_ ls e p = some n):(ln ls n).fl.fEnv = e∧(ln ls n).fl.fPage = p:=by
  rcases (at_iff.1 h).2 with ⟨e1,h1⟩ | ⟨e1,h1,_⟩
  · rw [e1]; exact h1
  · rw [e1]; exact h1
structure TOk (t:Buf):Prop where
  len:t.1.length = 8
  at_:∀ i,i < 8→0 ≤ (ln t.1 i).fl.fEnv→at_ t.1 (ln t.1 i).fl.fEnv (ln t.1 i).fl.fPage = some i
theorem mem_lines {t:Buf} (h:t.1.length = 8) {l:jO}:l ∈ lines t↔∃ i,i < 8∧l = (ln t.1 i).fl:=by
  unfold lines
  rw [List.mem_map]
  constructor
  · rintro ⟨x,hx,rfl⟩
    obtain ⟨i,hi,rfl⟩:=List.getElem_of_mem hx
    exact ⟨i,by omega,by simp [ln,hi]⟩
  · rintro ⟨i,hi,rfl⟩
    have:i < t.1.length:=by omega
    exact ⟨t.1[i],List.getElem_mem this,by simp [ln,this]⟩
theorem tok_new:TOk tlb0:=by
  refine ⟨rfl,fun i hi h=>?_⟩
  have key:∀ i,i < 8→(ln tlb0.1 i).fl.fEnv = -1:=by decide
  rw [key i hi] at h
  exact absurd h (by decide)
theorem tok_clear {t:Buf} (h:TOk t) {n:Nat} (hn:n < 8) {y:TL} (hy:y.fl.fEnv < 0) (m:Int):TOk (t.1.set n y,m):=by
  refine ⟨by simpa using h.len,fun i hi he=>?_⟩
  simp only at he ⊢
  rw [ln_set h.len hn] at he ⊢
  by_cases e:i = n
  · rw [if_pos e] at he; omega
  · rw [if_neg e] at he ⊢
    have h1:=at_iff.1 (h.at_ i hi he)
    have keep:∀ j,hit (t.1.set n y) (ln t.1 i).fl.fEnv (ln t.1 i).fl.fPage j↔j ≠ n∧hit t.1 (ln t.1 i).fl.fEnv (ln t.1 i).fl.fPage j:=by
      intro j
      unfold hit
      rw [ln_set h.len hn]
      by_cases ej:j = n
      · rw [if_pos ej]
        constructor
        · intro x; omega
        · intro x; exact absurd ej x.1
      · rw [if_neg ej]; simp [ej]
    refine at_iff.2 ⟨h1.1,?_⟩
    rcases h1.2 with ⟨a,b⟩ | ⟨a,b,c⟩
    · exact .inl ⟨a,(keep _).2 ⟨a ▸ e,b⟩⟩
    · exact .inr ⟨a,(keep _).2 ⟨a ▸ e,b⟩,fun x=>c ((keep _).1 x).2⟩
theorem flush_eq {t:Buf} {e p:Int}:flush t e p = (match at_ t.1 e p with | some n=>(true,t.1.set n { ln t.1 n with fl:=ge },t.2) | none=>(false,t)):=rfl
theorem lines_clear {t:Buf} (h:TOk t) {n:Nat} (hn:n < 8) {y:TL} (hy:y.fl.fEnv < 0) {m:Int} {l:jO} (hl:l ∈ lines (t.1.set n y,m)) (he:0 ≤ l.fEnv):∃ i,i < 8∧i ≠ n∧l = (ln t.1 i).fl:=by
  obtain ⟨i,hi,rfl⟩:=(mem_lines (by simpa using h.len)).1 hl
  simp only at he ⊢
  rw [ln_set h.len hn] at he ⊢
  by_cases e:i = n
  · rw [if_pos e] at he; omega
  · rw [if_neg e]; exact ⟨i,hi,e,rfl⟩
theorem tok_flush {t:Buf} (h:TOk t) (e p:Int):TOk (flush t e p).2:=by
  rw [flush_eq]
  split
  · rename_i n hn
    exact tok_clear h (at_lt hn) (by show (-1:Int) < 0; omega) _
  · exact h
theorem lines_flush {t:Buf} (h:TOk t) {e p:Int} {l:jO} (hl:l ∈ lines (flush t e p).2) (he:0 ≤ l.fEnv):l ∈ lines t∧¬ (l.fEnv = e∧l.fPage = p):=by
  rw [flush_eq] at hl
  split at hl
  · rename_i n hn
    obtain ⟨i,hi,hne,rfl⟩:=lines_clear h (at_lt hn) (by show (-1:Int) < 0; omega) hl he
    refine ⟨(mem_lines h.len).2 ⟨i,hi,rfl⟩,?_⟩
    rintro ⟨rfl,rfl⟩
    have:=h.at_ i hi he
    rw [hn] at this
    exact hne (Option.some.inj this).symm
  · rename_i hn
    refine ⟨hl,?_⟩
    rintro ⟨rfl,rfl⟩
    obtain ⟨i,hi,rfl⟩:=(mem_lines h.len).1 hl
    rw [h.at_ i hi he] at hn
    cases hn
theorem room_in (ls:List TL) (p:Int):room ls (bs p) = bs p∨room ls (bs p) = bs p + 1:=by
  unfold room; repeat' split
  all_goals simp
theorem place_in {ls:List TL} {a:jO} (hp:0 ≤ a.fPage):place ls a = bs a.fPage∨place ls a = bs a.fPage + 1:=by
  unfold place
  split
  · rename_i n hn
    rcases (at_iff.1 hn).2 with h | h
    · exact .inl h.1
    · exact .inr h.1
  · exact room_in ls a.fPage
theorem tok_fill {t:Buf} (h:TOk t) (a:jO):TOk (fill t a).2∧∀ l ∈ lines (fill t a).2,0 ≤ l.fEnv→l = a∧¬ bad a∨l ∈ lines t:=by
  unfold fill
  split
  · exact ⟨h,fun l hl _=>.inr hl⟩
  · rename_i hb
    have hb':0 ≤ a.fEnv∧0 ≤ a.fPage∧a.fPage < 8:=by unfold bad at hb; omega
    have hpl:=place_in (ls:=t.1) hb'.2.1
    have hbs:=bs_lt hb'.2.1
    have hn:place t.1 a < 8:=by omega
    have dU:=ln_set h.len hn (⟨a,IntKind.i64.wrap (t.2 + 1)⟩:TL)
    have other:∀ i,i < 8→i ≠ place t.1 a→0 ≤ (ln t.1 i).fl.fEnv→¬ ((ln t.1 i).fl.fEnv = a.fEnv∧(ln t.1 i).fl.fPage = a.fPage):=by
      rintro i hi hne he ⟨e1,e2⟩
      have:=h.at_ i hi he
      rw [e1,e2] at this
      unfold place at hne
      rw [this] at hne
      exact hne rfl
    refine ⟨⟨by simpa using h.len,fun i hi he=>?_⟩,fun l hl he=>?_⟩
    · simp only at he ⊢
      rw [dU] at he ⊢
      by_cases e:i = place t.1 a
      · rw [if_pos e] at he ⊢
        refine at_iff.2 ⟨hb',?_⟩
        have hself:hit (t.1.set (place t.1 a) ⟨a,IntKind.i64.wrap (t.2 + 1)⟩) a.fEnv a.fPage (place t.1 a):=by unfold hit; rw [dU,if_pos rfl]; exact ⟨rfl,rfl⟩
        rcases hpl with h1 | h1
        · exact .inl ⟨e.trans h1,by rw [h1] at hself ⊢; exact hself⟩
        · refine .inr ⟨e.trans h1,by rw [h1] at hself ⊢; exact hself,fun hx=>?_⟩
          have hx:hit (t.1.set (place t.1 a) ⟨a,IntKind.i64.wrap (t.2 + 1)⟩) a.fEnv a.fPage (bs a.fPage):=hx
          unfold hit at hx
          rw [dU,if_neg (by rw [h1]; omega)] at hx
          exact other _ (by omega) (by rw [h1]; omega) (by rw [hx.1]; exact hb'.1) hx
      · rw [if_neg e] at he ⊢
        have h1:=at_iff.1 (h.at_ i hi he)
        have ho:=other i hi e he
        have keep:∀ j,hit (t.1.set (place t.1 a) ⟨a,IntKind.i64.wrap (t.2 + 1)⟩) (ln t.1 i).fl.fEnv (ln t.1 i).fl.fPage j↔j ≠ place t.1 a∧hit t.1 (ln t.1 i).fl.fEnv (ln t.1 i).fl.fPage j:=by
          intro j
          unfold hit
          rw [dU]
          by_cases ej:j = place t.1 a
          · rw [if_pos ej]
            constructor
            · rintro ⟨x,y⟩; exact absurd ⟨x.symm,y.symm⟩ ho
            · intro x; exact absurd ej x.1
          · rw [if_neg ej]; simp [ej]
        refine at_iff.2 ⟨h1.1,?_⟩
        rcases h1.2 with ⟨x,y⟩ | ⟨x,y,z⟩
        · exact .inl ⟨x,(keep _).2 ⟨x ▸ e,y⟩⟩
        · exact .inr ⟨x,(keep _).2 ⟨x ▸ e,y⟩,fun u=>z ((keep _).1 u).2⟩
    · obtain ⟨i,hi,rfl⟩:=(mem_lines (by simpa using h.len)).1 hl
      simp only at he ⊢
      rw [dU] at he ⊢
      by_cases e:i = place t.1 a
      · rw [if_pos e]; exact .inl ⟨rfl,hb⟩
      · rw [if_neg e]; exact .inr ((mem_lines h.len).2 ⟨i,hi,rfl⟩)
theorem find_in {t:Buf} (h:TOk t) {e p:Int} (hf:(find t.1 e p).2 = true):(find t.1 e p).1 ∈ lines t∧(find t.1 e p).1.fEnv = e∧(find t.1 e p).1.fPage = p∧0 ≤ e:=by
  unfold find at hf ⊢
  split at hf
  · rename_i n hn
    simp only [hn]
    have:=at_hit hn
    exact ⟨(mem_lines h.len).2 ⟨n,at_lt hn,rfl⟩,this.1,this.2,(at_iff.1 hn).1.1⟩
  · cases hf
end Tlb
theorem cleans_spec (k:KK):∀ (L:List jO) {b:Buf},Tlb.TOk b→Tlb.TOk (KK.cleans k L b)∧∀ l ∈ Tlb.lines (KK.cleans k L b),0 ≤ l.fEnv→l ∈ Tlb.lines b∧∀ d ∈ L,KK.stale k d = true→¬ (l.fEnv = d.fEnv∧l.fPage = d.fPage)
  | [],b,h=>⟨h,fun l hl _=>⟨hl,fun d hd=>by cases hd⟩⟩
  | d::L,b,h=>by
    rw [KK.cleans]
    split
    · rename_i hs
      have h1:=Tlb.tok_flush h d.fEnv d.fPage
      obtain ⟨i1,i2⟩:=cleans_spec k L h1
      refine ⟨i1,fun l hl he=>?_⟩
      obtain ⟨j1,j2⟩:=i2 l hl he
      obtain ⟨k1,k2⟩:=Tlb.lines_flush h j1 he
      refine ⟨k1,fun x hx hsx=>?_⟩
      rcases List.mem_cons.1 hx with rfl | hx
      · exact k2
      · exact j2 x hx hsx
    · rename_i hs
      obtain ⟨i1,i2⟩:=cleans_spec k L h
      refine ⟨i1,fun l hl he=>?_⟩
      obtain ⟨j1,j2⟩:=i2 l hl he
      refine ⟨j1,fun x hx hsx=>?_⟩
      rcases List.mem_cons.1 hx with rfl | hx
      · exact absurd hsx hs
      · exact j2 x hx hsx
theorem cleans_all {k:KK} {b:Buf} (h:Tlb.TOk b):Tlb.TOk (KK.cleans k (Tlb.lines b) b)∧∀ l ∈ Tlb.lines (KK.cleans k (Tlb.lines b) b),0 ≤ l.fEnv→l ∈ Tlb.lines b∧KK.stale k l = false:=by
  obtain ⟨h1,h2⟩:=cleans_spec k (Tlb.lines b) h
  refine ⟨h1,fun l hl he=>?_⟩
  obtain ⟨a,c⟩:=h2 l hl he
  refine ⟨a,?_⟩
  cases hs:KK.stale k l with
  | false=>rfl
  | true=>exact absurd ⟨rfl,rfl⟩ (c l a hs)
end Go.Proofs.YtemoifebbhoinaaGreatDoor
namespace Go.Proofs.YtemoifebbhoinaaGreatDoor
open Go Mb
theorem may3 {r:Int} (h:1 ≤ r∧r ≤ 3):r = 1∨r = 2∨r = 3:=by omega
theorem within_and {a b c:Int} (hb:1 ≤ b∧b ≤ 3) (hc:1 ≤ c∧c ≤ 3):aQ a (iand .i64 b c) = true↔aQ a b = true∧aQ a c = true:=by
  by_cases ha:1 ≤ a∧a ≤ 3
  · rcases may3 ha with rfl | rfl | rfl <;> rcases may3 hb with rfl | rfl | rfl <;> rcases may3 hc with rfl | rfl | rfl <;> decide
  · constructor
    · intro h; exact absurd (dk h).1 ha
    · intro h; exact absurd (dk h.1).1 ha
theorem iand_le {b c:Int} (hb:1 ≤ b∧b ≤ 3) (hc:1 ≤ c∧c ≤ 3):0 ≤ iand .i64 b c∧iand .i64 b c ≤ 3:=by
  rcases may3 hb with rfl | rfl | rfl <;> rcases may3 hc with rfl | rfl | rfl <;> decide
theorem within_refl {a:Int} (h:1 ≤ a∧a ≤ 3):aQ a a = true:=by rcases may3 h with rfl | rfl | rfl <;> decide
structure Cov (p:Pte) (l:jO):Prop where
  f:p.fFrame = l.fFrame
  w:aQ l.fRights p.fRights = true
theorem Cov.r {p:Pte} {l:jO} (h:Cov p l):1 ≤ p.fRights∧p.fRights ≤ 3:=(dk h.w).2
theorem not_cov0 {l:jO}:¬ Cov dh l:=fun h=>by have:=h.r; simp at this
structure Stay (p:PK) (e:Int) (c:dc) (a pg s r:Int):Prop where
  s7:c.e0 = 7→¬ (e = a∧c.e1 = pg)
  s8:c.e0 = 8→e = a→c.e1 = pg→aQ c.e2 (Caps.get p.caps a s).fRights = true→aQ r c.e2 = true
  s4:c.e0 = 4∨c.e0 = 5→PK.gz p e c a s = false
theorem Stay.keep {p p':PK} {e:Int} {c:dc} {a pg s r:Int} (h:Stay p e c a pg s r) (k:Caps.Keep p.caps p'.caps a s) (hl:p'.caps.length = p.caps.length):Stay p' e c a pg s r:=by
  refine ⟨h.s7,fun h1 h2 h3 h4=>h.s8 h1 h2 h3 (by rw [← k.g]; exact h4),fun h1=>?_⟩
  have:=h.s4 h1
  unfold PK.gz at this ⊢
  have hh:Caps.has p'.caps a s = Caps.has p.caps a s:=by unfold Caps.has; rw [hl]
  rw [hh,k.g,k.u]
  exact this
theorem aft_cov {p:PK} {e:Int} {c:dc} {a pg:Int} {l:jO} (ht:Tk c) (hc:Cov (PK.q p a pg) l) (hs:Stay p e c a pg (PK.q p a pg).fSlot l.fRights):Cov (PK.aft p e c a pg) l∧(PK.aft p e c a pg).fSlot = (PK.q p a pg).fSlot:=by
  unfold PK.aft
  by_cases h7:c.e0 = 7
  · rw [if_pos h7,if_neg (hs.s7 h7)]; exact ⟨hc,rfl⟩
  · rw [if_neg h7]
    by_cases h8:c.e0 = 8
    · rw [if_pos h8]
      split
      · rename_i h
        obtain ⟨⟨rfl,rfl⟩,h1,h2⟩:=h
        exact ⟨⟨hc.f,hs.s8 h8 rfl rfl h2⟩,rfl⟩
      · exact ⟨hc,rfl⟩
    · rw [if_neg h8,if_neg]
      · exact ⟨hc,rfl⟩
      · rintro ⟨_,h⟩
        rw [hs.s4 (by unfold Tk at ht; omega)] at h
        cases h
theorem at_rights {t:Caps.T} {e s:Int} (h:Caps.has t e s = true):(Caps.at_ t e s).1.fRights = (Caps.get t e s).fRights:=by
  unfold Caps.at_
  by_cases hr:(Caps.get t e s).fRights ≠ 0
  · rw [if_pos ⟨h,hr⟩]
  · rw [if_neg (fun x=>hr x.2)]
    have:(Caps.get t e s).fRights = 0:=by simpa using hr
    rw [this]
structure Teller (n:Int) (x:KC):Prop where
  t:Tk x.fc
  k:Word.check x.fc n = 0
  w:Cw x.fc
theorem left_cov {p:PK} {x:KC} {a pg:Int} {l:jO} {qq:Pte} (hn:1 ≤ p.s.fEnvs∧p.s.fEnvs ≤ 4) (T:Teller p.s.fEnvs x) (hb:Caps.has p.caps a qq.fSlot = true) (hq:1 ≤ qq.fRights∧qq.fRights ≤ 3) :
    (Cov (KK.left p x a pg qq) l↔Cov qq l∧Stay p x.fenv x.fc a pg qq.fSlot l.fRights)∧((KK.left p x a pg qq).fRights ≠ 0→(KK.left p x a pg qq).fSlot = qq.fSlot∧1 ≤ (KK.left p x a pg qq).fRights∧(KK.left p x a pg qq).fRights ≤ 3):=by
  have w:=tL hn.1 hn.2 T.k
  have ht:=T.t
  have h1:IntKind.i64.wrap x.fc.e1 = x.fc.e1:=kwr T.w.c1 (by have:=w.w1 (by unfold Tk at ht; omega); omega)
  have hg:KK.goes p x a qq.fSlot = PK.gz p x.fenv x.fc a qq.fSlot:=by unfold KK.goes PK.gz; rw [h1]
  unfold KK.left
  rw [h1]
  by_cases h7:x.fc.e0 = 7
  · rw [if_pos h7]
    by_cases ho:x.fenv = a∧x.fc.e1 = pg
    · rw [if_pos ho]
      refine ⟨⟨fun h=>absurd h not_cov0,fun h=>absurd ho (h.2.s7 h7)⟩,fun h=>absurd rfl h⟩
    · rw [if_neg ho]
      refine ⟨⟨fun h=>⟨h,⟨fun _=>ho,fun h8=>by omega,fun h45=>by omega⟩⟩,fun h=>h.1⟩,fun _=>⟨rfl,hq⟩⟩
  · rw [if_neg h7]
    by_cases h8:x.fc.e0 = 8
    · have h5:=w.w5 h8
      have h2:IntKind.i64.wrap x.fc.e2 = x.fc.e2:=kwr T.w.c2 (by omega)
      rw [if_pos h8,h2,at_rights hb]
      by_cases ho:(x.fenv = a∧x.fc.e1 = pg)∧aQ x.fc.e2 (Caps.get p.caps a qq.fSlot).fRights = true
      · rw [if_pos ho]
        have hw:=within_and (a:=l.fRights) hq h5
        refine ⟨⟨fun h=>?_,fun h=>?_⟩,fun h=>⟨rfl,?_⟩⟩
        · have h3:=hw.1 h.w
          exact ⟨⟨h.f,h3.1⟩,⟨fun h=>by omega,fun _ _ _ _=>h3.2,fun h=>by omega⟩⟩
        · exact ⟨h.1.f,hw.2 ⟨h.1.w,h.2.s8 h8 ho.1.1 ho.1.2 ho.2⟩⟩
        · have h6:=iand_le hq h5
          have h:iand .i64 qq.fRights x.fc.e2 ≠ 0:=h
          show 1 ≤ iand .i64 qq.fRights x.fc.e2∧iand .i64 qq.fRights x.fc.e2 ≤ 3
          omega
      · rw [if_neg ho]
        exact ⟨⟨fun h=>⟨h,⟨fun h=>by omega,fun _ a1 a2 a3=>absurd ⟨⟨a1,a2⟩,a3⟩ ho,fun h=>by omega⟩⟩,fun h=>h.1⟩,fun _=>⟨rfl,hq⟩⟩
    · rw [if_neg h8,hg]
      by_cases ho:PK.gz p x.fenv x.fc a qq.fSlot = true
      · rw [if_pos ho]
        refine ⟨⟨fun h=>absurd h not_cov0,fun h=>?_⟩,fun h=>absurd rfl h⟩
        have:=h.2.s4 (by unfold Tk at ht; omega)
        rw [this] at ho; cases ho
      · rw [if_neg ho]
        exact ⟨⟨fun h=>⟨h,⟨fun h=>by omega,fun h=>by omega,fun _=>by simpa using ho⟩⟩,fun h=>h.1⟩,fun _=>⟨rfl,hq⟩⟩
theorem rX {p:PK} {a pg:Int} {l:jO} (hn:1 ≤ p.s.fEnvs∧p.s.fEnvs ≤ 4):∀ (cs:List (Option KC)) (b:Bool) (qq:Pte),(∀ x,some x ∈ cs→x.ftold = true→Teller p.s.fEnvs x)→(b = true→Caps.has p.caps a qq.fSlot = true∧1 ≤ qq.fRights∧qq.fRights ≤ 3) →
    (((KK.seenFrom p a pg cs b qq).2 = true∧Cov (KK.seenFrom p a pg cs b qq).1 l)↔(b = true∧Cov qq l∧∀ x,some x ∈ cs→x.ftold = true→Stay p x.fenv x.fc a pg qq.fSlot l.fRights))
  | [],b,qq,_,_=>by simp [KK.seenFrom]
  | none::cs,b,qq,hT,hb=>by
    rw [KK.seenFrom,rX hn cs b qq (fun x hx=>hT x (by simp [hx])) hb]
    simp
  | some x::cs,b,qq,hT,hb=>by
    rw [KK.seenFrom]
    by_cases hc:b = true∧x.ftold = true
    · rw [if_pos hc]
      obtain ⟨b1,b2⟩:=hb hc.1
      obtain ⟨L1,L2⟩:=left_cov (l:=l) (pg:=pg) hn (hT x (by simp) hc.2) b1 b2
      have ih:=rX (l:=l) (pg:=pg) hn cs ((KK.left p x a pg qq).fRights != 0) (KK.left p x a pg qq) (fun y hy=>hT y (by simp [hy])) (fun h=>by
        have:=L2 (by simpa using h)
        rw [this.1]; exact ⟨b1,this.2⟩)
      rw [ih,L1]
      constructor
      · rintro ⟨h1,h2,h3⟩
        have:=(L2 (by simpa using h1)).1
        refine ⟨hc.1,h2.1,fun y hy hty=>?_⟩
        rcases List.mem_cons.1 hy with hy | hy
        · cases hy; exact h2.2
        · rw [← this]; exact h3 y hy hty
      · rintro ⟨_,h2,h3⟩
        have hx:=h3 x (by simp) hc.2
        have hcov:=L1.2 ⟨h2,hx⟩
        have hne:(KK.left p x a pg qq).fRights ≠ 0:=by have:=hcov.r; omega
        refine ⟨by simpa using hne,⟨h2,hx⟩,fun y hy hty=>?_⟩
        rw [(L2 hne).1]; exact h3 y (by simp [hy]) hty
    · rw [if_neg hc,rX hn cs b qq (fun y hy=>hT y (by simp [hy])) hb]
      constructor
      · rintro ⟨h1,h2,h3⟩
        refine ⟨h1,h2,fun y hy hty=>?_⟩
        rcases List.mem_cons.1 hy with hy | hy
        · cases hy; exact absurd ⟨h1,hty⟩ hc
        · exact h3 y hy hty
      · rintro ⟨h1,h2,h3⟩
        exact ⟨h1,h2,fun y hy hty=>h3 y (by simp [hy]) hty⟩
def Tells (k:KK) (d:Nat) (x:KC):Prop:=k.calls[d]? = some (some x)∧x.ftold = true
def heard (k:KK) (c:Nat):Int:=k.epochs.2.getD c 0
def Hears (k:KK) (c d:Nat) (x:KC):Prop:=c = d∨x.fepoch ≤ heard k c
def gD (k:KK) (c:Nat):Buf:=k.tlbs.getD c ([],0)
structure LineOk (k:KK) (c:Nat) (l:jO):Prop where
  cov:Cov (PK.q k.p l.fEnv l.fPage) l
  stay:∀ d x,Tells k d x→Hears k c d x→Stay k.p x.fenv x.fc l.fEnv l.fPage (PK.q k.p l.fEnv l.fPage).fSlot l.fRights
structure fy (k:KK):Prop where
  ok:KK.Ok k
  F:PK.Fine k.p
  cw:∀ (d:Nat) x,k.calls[d]? = some (some x)→Cw x.fc
  told:∀ d x,Tells k d x→(Tk x.fc∧Word.check x.fc k.p.s.fEnvs = 0)∧1 ≤ x.fepoch∧x.fepoch ≤ k.epochs.1.length∧k.epochs.1[(x.fepoch - 1).toNat]? = some (d:Int)
  mail:∀ c n:Nat,c < k.calls.length→n < k.epochs.1.length→k.epochs.1[n]? ≠ some (c:Int)→(n:Int) + 1 ≤ heard k c∨((n:Int) + 1) ∈ Mail.box k.boxes c
  hi:∀ c,heard k c ≤ k.epochs.1.length
  tok:∀ c,c < k.calls.length→Tlb.TOk (gD k c)
  line:∀ c,c < k.calls.length→∀ l ∈ Tlb.lines (gD k c),0 ≤ l.fEnv→LineOk k c l
theorem fy.teller {k:KK} (I:fy k) {d:Nat} {x:KC} (h:Tells k d x):Teller k.p.s.fEnvs x:=⟨(I.told d x h).1.1,(I.told d x h).1.2,I.cw d x h.1⟩
theorem fy.en {k:KK} (I:fy k):1 ≤ k.p.s.fEnvs∧k.p.s.fEnvs ≤ 4:=PK.envs_of I.F.ok
theorem q_slot {p:PK} (F:PK.Fine p) {a pg:Int} (h:(PK.q p a pg).fRights ≠ 0):Caps.has p.caps a (PK.q p a pg).fSlot = true∧1 ≤ (PK.q p a pg).fRights∧(PK.q p a pg).fRights ≤ 3:=by
  have:=F.by_ a pg h
  exact ⟨this.1,(dk this.2.2).1⟩
theorem seen_cov {k:KK} (hn:1 ≤ k.p.s.fEnvs∧k.p.s.fEnvs ≤ 4) (F:PK.Fine k.p) (hT:∀ x,some x ∈ k.calls→x.ftold = true→Teller k.p.s.fEnvs x) (a pg:Int) (l:jO) :
    ((KK.seen k a pg).2 = true∧Cov (KK.seen k a pg).1 l)↔(Cov (PK.q k.p a pg) l∧∀ x,some x ∈ k.calls→x.ftold = true→Stay k.p x.fenv x.fc a pg (PK.q k.p a pg).fSlot l.fRights):=by
  unfold KK.seen
  rw [PK.pte_snd]
  show ((KK.seenFrom k.p a pg k.calls (decide ((PK.q k.p a pg).fRights ≠ 0)) (PK.q k.p a pg)).2 = true∧Cov (KK.seenFrom k.p a pg k.calls (decide ((PK.q k.p a pg).fRights ≠ 0)) (PK.q k.p a pg)).1 l)↔_
  rw [rX hn k.calls _ _ hT (fun h=>q_slot F (of_decide_eq_true h))]
  constructor
  · rintro ⟨_,h⟩; exact h
  · intro h
    exact ⟨decide_eq_true (by have:=h.1.r; omega),h⟩
theorem not_stale {k:KK} {l:jO} (h:KK.stale k l = false) (he:0 ≤ l.fEnv):(KK.seen k l.fEnv l.fPage).2 = true∧Cov (KK.seen k l.fEnv l.fPage).1 l:=by
  unfold KK.stale at h
  rw [decide_eq_true he,Bool.true_and] at h
  simp only [Bool.or_eq_false_iff,Bool.not_eq_false',bne_eq_false_iff_eq] at h
  exact ⟨h.1.1,⟨h.1.2,h.2⟩⟩
end Go.Proofs.YtemoifebbhoinaaGreatDoor
namespace Go.Proofs.YtemoifebbhoinaaGreatDoor
open Go Mb
theorem calls_mem {k:KK} {x:KC} (h:some x ∈ k.calls):∃ d:Nat,k.calls[d]? = some (some x):=by
  obtain ⟨i,hi,e⟩:=List.getElem_of_mem h
  exact ⟨i,by rw [List.getElem?_eq_getElem hi,e]⟩
theorem fy.tell_all {k:KK} (I:fy k):∀ x,some x ∈ k.calls→x.ftold = true→Teller k.p.s.fEnvs x:=fun _ hx ht=>by
  obtain ⟨d,hd⟩:=calls_mem hx
  exact I.teller ⟨hd,ht⟩
theorem heard_new (s:eY) (c:Nat):heard (KK.new s) c = 0:=by
  simp only [heard,KK.new,List.getD_eq_getElem?_getD,List.getElem?_replicate]
  split <;> rfl
theorem rZ (s:eY) (d:Nat) (x:KC):(KK.new s).calls[d]? ≠ some (some x):=by
  simp only [KK.new,List.getElem?_replicate]
  split <;> simp
theorem inv_new {s:eY} (h:PK.sized s = true):fy (KK.new s):=by
  have hbuf:∀ c,c < (KK.new s).calls.length→gD (KK.new s) c = tlb0:=fun c hc=>by
    simp only [KK.new,List.length_replicate] at hc
    simp only [gD,KK.new,List.getD_eq_getElem?_getD,List.getElem?_replicate,if_pos hc,Option.getD_some]
  refine ⟨kok_new h,PK.fine_new h,fun d x hx=>absurd hx (rZ s d x),fun d x hx=>absurd hx.1 (rZ s d x),fun c n _ hn=>absurd hn (Nat.not_lt_zero _),fun c=>by rw [heard_new]; exact Int.natCast_nonneg _,fun c hc=>by rw [hbuf c hc]; exact Tlb.tok_new,fun c hc l hl he=>?_⟩
  rw [hbuf c hc] at hl
  obtain ⟨i,hi,rfl⟩:=(Tlb.mem_lines rfl).1 hl
  have key:∀ i,i < 8→(Tlb.ln tlb0.1 i).fl.fEnv = -1:=by decide
  rw [key i hi] at he
  exact absurd he (by decide)
theorem fy.same {k k':KK} (I:fy k) (ok:KK.Ok k') (hp:k'.p = k.p) (h1:k'.tlbs = k.tlbs) (h2:k'.boxes = k.boxes) (h3:k'.epochs = k.epochs) (h4:k'.calls = k.calls):fy k':=by
  obtain ⟨p,tl,bx,ep,ca,ev,no⟩:=k
  obtain ⟨p',tl',bx',ep',ca',ev',no'⟩:=k'
  simp only at hp h1 h2 h3 h4
  subst hp; subst h1; subst h2; subst h3; subst h4
  exact ⟨ok,I.F,I.cw,I.told,I.mail,I.hi,I.tok,fun c hc l hl he=>⟨(I.line c hc l hl he).cov,(I.line c hc l hl he).stay⟩⟩
theorem fy.put {k k':KK} (I:fy k) (ok:KK.Ok k') {c:Nat} {o:Option KC} (ho:∀ x,o = some x→x.ftold = false∧Cw x.fc) (hp:k'.p = k.p) (h1:k'.tlbs = k.tlbs) (h2:k'.boxes = k.boxes) (h3:k'.epochs = k.epochs) (h4:k'.calls = k.calls.set c o):fy k':=by
  obtain ⟨p,tl,bx,ep,ca,ev,no⟩:=k
  obtain ⟨p',tl',bx',ep',ca',ev',no'⟩:=k'
  simp only at hp h1 h2 h3 h4
  subst hp; subst h1; subst h2; subst h3; subst h4
  have back:∀ (d:Nat) x,(ca.set c o)[d]? = some (some x)→(o = some x∧d = c)∨ca[d]? = some (some x):=by
    intro d x hx
    rw [List.getElem?_set] at hx
    split at hx
    · rename_i e
      split at hx
      · exact .inl ⟨by simpa using hx,e.symm⟩
      · cases hx
    · exact .inr hx
  have backT:∀ d x,Tells ⟨p',tl',bx',ep',ca.set c o,ev',no'⟩ d x→Tells ⟨p',tl',bx',ep',ca,ev,no⟩ d x:=by
    rintro d x ⟨hx,ht⟩
    rcases back d x hx with ⟨h,_⟩ | h
    · rw [(ho x h).1] at ht; cases ht
    · exact ⟨h,ht⟩
  refine ⟨ok,I.F,fun d x hx=>?_,fun d x hx=>I.told d x (backT d x hx),fun a n ha hn=>I.mail a n (by simpa using ha) hn,I.hi,fun a ha=>I.tok a (by simpa using ha),fun a ha l hl he=>?_⟩
  · rcases back d x hx with ⟨h,_⟩ | h
    · exact (ho x h).2
    · exact I.cw d x h
  · have L:=I.line a (by simpa using ha) l hl he
    exact ⟨L.cov,fun d x hx hh=>L.stay d x (backT d x hx) hh⟩
theorem fy.move {k:KK} (I:fy k) {p':PK} (okp:PK.Ok p') (M:PK.Mv k.p p') (h:∀ c,c < k.calls.length→∀ l ∈ Tlb.lines (gD k c),0 ≤ l.fEnv→Cov (PK.q p' l.fEnv l.fPage) l∧(PK.q p' l.fEnv l.fPage).fSlot = (PK.q k.p l.fEnv l.fPage).fSlot):fy { k with p:=p' }:=by
  refine ⟨kok_p I.ok okp M.s,M.fine,I.cw,fun d x hx=>by have:=I.told d x hx; exact ⟨⟨this.1.1,by show Word.check x.fc p'.s.fEnvs = 0; rw [M.s]; exact this.1.2⟩,this.2⟩,I.mail,I.hi,I.tok,fun c hc l hl he=>?_⟩
  have L:=I.line c hc l hl he
  obtain ⟨h1,h2⟩:=h c hc l hl he
  refine ⟨h1,fun d x hx hh=>?_⟩
  show Stay p' x.fenv x.fc l.fEnv l.fPage (PK.q p' l.fEnv l.fPage).fSlot l.fRights
  rw [h2]
  refine (L.stay d x hx hh).keep (M.keep _ _ (by have:=L.cov.r; omega) (by have:=h1.r; omega)) ?_
  have e1:=I.F.ok.cl
  have e2:=M.fine.ok.cl
  rw [M.s] at e2
  omega
theorem fy.effect {k:KK} (I:fy k) {e:Int} {c:dc} (cw:Cw c) (h:Tk c→PK.off k.p e = false→Word.check c k.p.s.fEnvs = 0→∀ a,a < k.calls.length→∀ l ∈ Tlb.lines (gD k a),0 ≤ l.fEnv→Stay k.p e c l.fEnv l.fPage (PK.q k.p l.fEnv l.fPage).fSlot l.fRights):fy { k with p:=(PK.do_ k.p e c).2 }:=by
  obtain ⟨M,mono⟩:=PK.do_mv I.F (e:=e) cw
  refine I.move M.fine.ok M fun a ha l hl he=>?_
  have L:=I.line a ha l hl he
  have hne:(PK.q k.p l.fEnv l.fPage).fRights ≠ 0:=by have:=L.cov.r; omega
  by_cases ht:Tk c
  · by_cases hb:PK.off k.p e = true∨Word.check c k.p.s.fEnvs ≠ 0
    · rw [(PK.do_bad hb).1]; exact ⟨L.cov,rfl⟩
    · simp only [not_or,Bool.not_eq_true,Decidable.not_not] at hb
      rw [PK.do_q I.F cw hb.1 hb.2 ht]
      exact aft_cov ht L.cov (h ht hb.1 hb.2 a ha l hl he)
  · rw [mono ht _ _ hne]; exact ⟨L.cov,rfl⟩
theorem fy.touch {k:KK} (I:fy k) (f:Int) (c:dc):fy { k with p:=(PK.touch k.p f c).2 }:=by
  obtain ⟨M,mono⟩:=PK.mv_touch I.F f c
  refine I.move M.fine.ok M fun a ha l hl he=>?_
  have L:=I.line a ha l hl he
  rw [mono _ _ (by have:=L.cov.r; omega)]
  exact ⟨L.cov,rfl⟩
theorem fy.buf {k:KK} (I:fy k) {c:Nat} (hc:c < k.calls.length) {b:Buf} (hb:Tlb.TOk b) (h:∀ l ∈ Tlb.lines b,0 ≤ l.fEnv→LineOk k c l):fy { k with tlbs:=k.tlbs.set c b }:=by
  have hlen:k.tlbs.length = k.calls.length:=by have:=I.ok.tl; have:=I.ok.cl; omega
  have hbuf:∀ a,gD { k with tlbs:=k.tlbs.set c b } a = if a = c then b else gD k a:=by
    intro a
    simp only [gD,List.getD_eq_getElem?_getD,List.getElem?_set]
    by_cases e:c = a
    · subst e; simp [hlen,hc]
    · rw [if_neg e,if_neg (fun h=>e h.symm)]
  refine ⟨kok_tlbs I.ok _ _,I.F,I.cw,I.told,I.mail,I.hi,fun a ha=>?_,fun a ha l hl he=>?_⟩
  · rw [hbuf]; split
    · exact hb
    · exact I.tok a ha
  · rw [hbuf] at hl
    by_cases e:a = c
    · rw [if_pos e] at hl
      subst e
      have L:=h l hl he
      exact ⟨L.cov,L.stay⟩
    · rw [if_neg e] at hl
      have L:=I.line a ha l hl he
      exact ⟨L.cov,L.stay⟩
theorem clean_lines {k:KK} (hn:1 ≤ k.p.s.fEnvs∧k.p.s.fEnvs ≤ 4) (F:PK.Fine k.p) (hT:∀ x,some x ∈ k.calls→x.ftold = true→Teller k.p.s.fEnvs x) {b:Buf} (hb:Tlb.TOk b):Tlb.TOk (KK.cleans k (Tlb.lines b) b)∧∀ l ∈ Tlb.lines (KK.cleans k (Tlb.lines b) b),0 ≤ l.fEnv→l ∈ Tlb.lines b∧Cov (PK.q k.p l.fEnv l.fPage) l∧∀ x,some x ∈ k.calls→x.ftold = true→Stay k.p x.fenv x.fc l.fEnv l.fPage (PK.q k.p l.fEnv l.fPage).fSlot l.fRights:=by
  obtain ⟨h1,h2⟩:=cleans_all (k:=k) hb
  refine ⟨h1,fun l hl he=>?_⟩
  obtain ⟨a,s⟩:=h2 l hl he
  exact ⟨a,(seen_cov hn F hT _ _ _).1 (not_stale s he)⟩
theorem tells_mem {k:KK} {d:Nat} {x:KC} (h:Tells k d x):some x ∈ k.calls:=List.mem_of_getElem? h.1
theorem ol {k:KK} {c:Int} (h:KK.is k c = true):∃ n:Nat,c = n∧n < k.calls.length:=by
  unfold KK.is at h
  have:=of_decide_eq_true h
  exact ⟨c.toNat,by omega,by omega⟩
theorem kbuf_nat (k:KK) (n:Nat):KK.buf k n = gD k n:=by simp [KK.buf,gD]
theorem kcall_nat {k:KK} {n:Nat} {x:KC} (h:KK.call k n = some x):k.calls[n]? = some (some x):=by
  unfold KK.call at h
  rw [Int.toNat_natCast,List.getD_eq_getElem?_getD] at h
  cases hc:k.calls[n]? with
  | none=>rw [hc] at h; cases h
  | some o=>rw [hc] at h; simp at h; rw [h]
end Go.Proofs.YtemoifebbhoinaaGreatDoor
