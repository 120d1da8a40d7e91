/- Part of the proof of: The law HistReal returns true for every input, and leaves its arguments as they were. -/
import Derived.Test.YtemoifebbhoinaaGreatDoorHistReal05
set_option linter.all false
set_option maxRecDepth 20000
namespace Go.Proofs.YtemoifebbhoinaaGreatDoor
open Go.Proofs.Tryz
open Go.IntKind (i64 u64)
open _root_.Int (toNat_natCast)
open _root_.List (replicate)
open _root_.Nat (le_refl)
section
open Go Mb
structure Cw (c:dp):Prop where
 c0:0 <= c.e0
 c1:0 <= c.e1
 c2:0 <= c.e2
 c3:0 <= c.e3
 c4:0 <= c.e4
theorem kwr {x:Int} (h0:0 <= x) (h1:x < 16):i64.wrap x = x:=bm (by omega) (by omega)
theorem kind_of {c:dp}:(az c).2 = true↔(1 <= c.e0/\c.e0 <= 10\/20 <= c.e0/\c.e0 <= 23):=by
 unfold az
 by_cases h:(1 <= c.e0/\c.e0 <= 10\/20 <= c.e0/\c.e0 <= 23)
 ·have:(((decide (c.e0 >= 1)) && (decide (c.e0 <= 10))) || ((decide (c.e0 >= 20)) && (decide (c.e0 <= 23)))) = true:=by simpa using h
  rw [this]; simp [h]
 ·have:(((decide (c.e0 >= 1)) && (decide (c.e0 <= 10))) || ((decide (c.e0 >= 20)) && (decide (c.e0 <= 23)))) = false:=by
   cases hb:(((decide (c.e0 >= 1)) && (decide (c.e0 <= 10))) || ((decide (c.e0 >= 20)) && (decide (c.e0 <= 23)))) with
   | false=>rfl
   | true=>exact absurd (by simpa using hb) h
  rw [this]; simp [h]
theorem xe {c:dp} (h:1 <= c.e0/\c.e0 <= 10\/20 <= c.e0/\c.e0 <= 23):az c = (c.e0,true):=by
 unfold az
 have:(((decide (c.e0 >= 1)) && (decide (c.e0 <= 10))) || ((decide (c.e0 >= 20)) && (decide (c.e0 <= 23)))) = true:=by simpa using h
 rw [this]
 show (i64.wrap c.e0,true) = _
 rw [bm (by omega) (by omega)]
structure Well (n:Int) (c:dp):Prop where
 kind:1 <= c.e0/\c.e0 <= 10\/20 <= c.e0/\c.e0 <= 23
 w1:c.e0 ≠ 10->c.e1 < 8
 w2:c.e0 = 2\/c.e0 = 6->c.e2 < 8
 w3:c.e0 = 3->c.e2 < n/\c.e3 < 8/\1 <= c.e4/\c.e4 <= 3
 w4:c.e0 = 2\/c.e0 = 6->1 <= c.e3/\c.e3 <= 3
 w5:c.e0 = 8->1 <= c.e2/\c.e2 <= 3
 w6:c.e0 = 9->c.e2 < 16/\1 <= c.e3/\c.e3 <= 4
 w7:20 <= c.e0->c.e2 < 16
theorem rights_of {w:Int}:(iC w).2 = true↔1 <= w/\w <= 3:=by
 unfold iC
 cases h:((decide (w < 1)) || (decide (w > 3))) with
 | true=>simp at h ⊢; omega
 | false=>simp at h ⊢; omega
theorem arg_of {c:dp} {i m:Int} (hi:1 <= i) (hi5:i < 5) (hm:0 < m) (hm2:m < 2 ^ 60):(Word.arg c i m).2 = true↔ak.get c i < m:=by
 have hw:u64.wrap m = m:=by simp only [IntKind.wrap]; first | omega | (simp [IntKind.bits,IntKind.signed]; omega)
 unfold Word.arg
 rw [hw]
 by_cases h:ak.get c i < m
 ·rw [if_neg (by omega)]; simp [h]
 ·rw [if_pos (by omega)]; simp [h]
theorem kl {c:dp} {n k i:Int} {ks:List Int}:Word.checks c n (k::ks) i = 0↔Word.fits c i k n = true/\Word.checks c n ks (i + 1) = 0:=by
 rw [Word.checks]
 split
 ·rename_i h; simp [h]
 ·rename_i h; simp [h]
theorem kK {c:dp} {i n:Int} (hi:1 <= i) (hi5:i < 5):Word.fits c i 0 n = true↔ak.get c i < 8:=by unfold Word.fits; rw [if_pos rfl]; exact arg_of hi hi5 (by decide) (by decide)
theorem fit1 {c:dp} {i n:Int} (hi:1 <= i) (hi5:i < 5):Word.fits c i 1 n = true↔ak.get c i < 8:=by unfold Word.fits; rw [if_neg (by decide),if_pos rfl]; exact arg_of hi hi5 (by decide) (by decide)
theorem fit2 {c:dp} {i n:Int} (hi:1 <= i) (hi5:i < 5):Word.fits c i 2 n = true↔ak.get c i < 16:=by unfold Word.fits; rw [if_neg (by decide),if_neg (by decide),if_pos rfl]; exact arg_of hi hi5 (by decide) (by decide)
theorem fit3 {c:dp} {i n:Int} (hi:1 <= i) (hi5:i < 5) (hn:0 < n) (hn2:n < 2 ^ 60):Word.fits c i 3 n = true↔ak.get c i < n:=by unfold Word.fits; rw [if_neg (by decide),if_neg (by decide),if_neg (by decide),if_pos rfl]; exact arg_of hi hi5 hn hn2
theorem fit4 {c:dp} {i n:Int}:Word.fits c i 4 n = true↔1 <= ak.get c i/\ak.get c i <= 3:=by unfold Word.fits; rw [if_neg (by decide),if_neg (by decide),if_neg (by decide),if_neg (by decide),if_pos rfl]; exact rights_of
theorem fit5 {c:dp} {i n:Int}:Word.fits c i 5 n = true↔1 <= ak.get c i/\ak.get c i <= 4:=by unfold Word.fits; rw [if_neg (by decide),if_neg (by decide),if_neg (by decide),if_neg (by decide),if_neg (by decide),if_pos rfl]; simp
theorem fit6 {c:dp} {i n:Int}:Word.fits c i 6 n = true:=by unfold Word.fits; rw [if_neg (by decide),if_neg (by decide),if_neg (by decide),if_neg (by decide),if_neg (by decide),if_neg (by decide)]
theorem get1 (c:dp):ak.get c 1 = c.e1:=rfl
theorem get2 (c:dp):ak.get c 2 = c.e2:=rfl
theorem get3 (c:dp):ak.get c 3 = c.e3:=rfl
theorem get4 (c:dp):ak.get c 4 = c.e4:=rfl
theorem uL {n:Int} {c:dp} (hn:1 <= n) (hn2:n <= 4) (h:Word.check c n = 0):Well n c:=by
 unfold Word.check at h
 split at h
 ·cases h
 ·rename_i hk
  have hk':=kind_of.1 (by simpa using hk)
  rw [xe hk'] at h
  have key:∀ (v:Int) (ks:List Int),c.e0 = v->Word.kinds v = ks->Word.checks c n ks 1 = 0:=fun v ks e1 e2=>by rw [← e2,← e1]; exact h
  have a1:(1:Int) + 1 = 2:=rfl
  have a2:(2:Int) + 1 = 3:=rfl
  have a3:(3:Int) + 1 = 4:=rfl
  have cases0:c.e0 = 1\/c.e0 = 2\/c.e0 = 3\/c.e0 = 4\/c.e0 = 5\/c.e0 = 6\/c.e0 = 7\/c.e0 = 8\/c.e0 = 9\/c.e0 = 10\/c.e0 = 20\/c.e0 = 21\/c.e0 = 22\/c.e0 = 23:=by omega
  rcases cases0 with e | e | e | e | e | e | e | e | e | e | e | e | e | e
  ·have hh:=key 1 [0] e (by decide)
   simp only [kl,a1,a2,a3,kK (c:=c) (n:=n) (i:=1) (by decide) (by decide),kK (c:=c) (n:=n) (i:=2) (by decide) (by decide),kK (c:=c) (n:=n) (i:=3) (by decide) (by decide),fit1 (c:=c) (n:=n) (i:=1) (by decide) (by decide),fit2 (c:=c) (n:=n) (i:=2) (by decide) (by decide),fit3 (c:=c) (n:=n) (i:=2) (by decide) (by decide) (by omega) (by omega),fit4,fit5,fit6,get1,get2,get3,get4] at hh
   exact ⟨hk',fun _=>by omega,fun _=>by omega,fun _=>by omega,fun _=>by omega,fun _=>by omega,fun _=>by omega,fun _=>by omega⟩
  ·have hh:=key 2 [0,0,4] e (by decide)
   simp only [kl,a1,a2,a3,kK (c:=c) (n:=n) (i:=1) (by decide) (by decide),kK (c:=c) (n:=n) (i:=2) (by decide) (by decide),kK (c:=c) (n:=n) (i:=3) (by decide) (by decide),fit1 (c:=c) (n:=n) (i:=1) (by decide) (by decide),fit2 (c:=c) (n:=n) (i:=2) (by decide) (by decide),fit3 (c:=c) (n:=n) (i:=2) (by decide) (by decide) (by omega) (by omega),fit4,fit5,fit6,get1,get2,get3,get4] at hh
   exact ⟨hk',fun _=>by omega,fun _=>by omega,fun _=>by omega,fun _=>by omega,fun _=>by omega,fun _=>by omega,fun _=>by omega⟩
  ·have hh:=key 3 [0,3,0,4] e (by decide)
   simp only [kl,a1,a2,a3,kK (c:=c) (n:=n) (i:=1) (by decide) (by decide),kK (c:=c) (n:=n) (i:=2) (by decide) (by decide),kK (c:=c) (n:=n) (i:=3) (by decide) (by decide),fit1 (c:=c) (n:=n) (i:=1) (by decide) (by decide),fit2 (c:=c) (n:=n) (i:=2) (by decide) (by decide),fit3 (c:=c) (n:=n) (i:=2) (by decide) (by decide) (by omega) (by omega),fit4,fit5,fit6,get1,get2,get3,get4] at hh
   exact ⟨hk',fun _=>by omega,fun _=>by omega,fun _=>by omega,fun _=>by omega,fun _=>by omega,fun _=>by omega,fun _=>by omega⟩
  ·have hh:=key 4 [0] e (by decide)
   simp only [kl,a1,a2,a3,kK (c:=c) (n:=n) (i:=1) (by decide) (by decide),kK (c:=c) (n:=n) (i:=2) (by decide) (by decide),kK (c:=c) (n:=n) (i:=3) (by decide) (by decide),fit1 (c:=c) (n:=n) (i:=1) (by decide) (by decide),fit2 (c:=c) (n:=n) (i:=2) (by decide) (by decide),fit3 (c:=c) (n:=n) (i:=2) (by decide) (by decide) (by omega) (by omega),fit4,fit5,fit6,get1,get2,get3,get4] at hh
   exact ⟨hk',fun _=>by omega,fun _=>by omega,fun _=>by omega,fun _=>by omega,fun _=>by omega,fun _=>by omega,fun _=>by omega⟩
  ·have hh:=key 5 [0] e (by decide)
   simp only [kl,a1,a2,a3,kK (c:=c) (n:=n) (i:=1) (by decide) (by decide),kK (c:=c) (n:=n) (i:=2) (by decide) (by decide),kK (c:=c) (n:=n) (i:=3) (by decide) (by decide),fit1 (c:=c) (n:=n) (i:=1) (by decide) (by decide),fit2 (c:=c) (n:=n) (i:=2) (by decide) (by decide),fit3 (c:=c) (n:=n) (i:=2) (by decide) (by decide) (by omega) (by omega),fit4,fit5,fit6,get1,get2,get3,get4] at hh
   exact ⟨hk',fun _=>by omega,fun _=>by omega,fun _=>by omega,fun _=>by omega,fun _=>by omega,fun _=>by omega,fun _=>by omega⟩
  ·have hh:=key 6 [1,0,4] e (by decide)
   simp only [kl,a1,a2,a3,kK (c:=c) (n:=n) (i:=1) (by decide) (by decide),kK (c:=c) (n:=n) (i:=2) (by decide) (by decide),kK (c:=c) (n:=n) (i:=3) (by decide) (by decide),fit1 (c:=c) (n:=n) (i:=1) (by decide) (by decide),fit2 (c:=c) (n:=n) (i:=2) (by decide) (by decide),fit3 (c:=c) (n:=n) (i:=2) (by decide) (by decide) (by omega) (by omega),fit4,fit5,fit6,get1,get2,get3,get4] at hh
   exact ⟨hk',fun _=>by omega,fun _=>by omega,fun _=>by omega,fun _=>by omega,fun _=>by omega,fun _=>by omega,fun _=>by omega⟩
  ·have hh:=key 7 [1] e (by decide)
   simp only [kl,a1,a2,a3,kK (c:=c) (n:=n) (i:=1) (by decide) (by decide),kK (c:=c) (n:=n) (i:=2) (by decide) (by decide),kK (c:=c) (n:=n) (i:=3) (by decide) (by decide),fit1 (c:=c) (n:=n) (i:=1) (by decide) (by decide),fit2 (c:=c) (n:=n) (i:=2) (by decide) (by decide),fit3 (c:=c) (n:=n) (i:=2) (by decide) (by decide) (by omega) (by omega),fit4,fit5,fit6,get1,get2,get3,get4] at hh
   exact ⟨hk',fun _=>by omega,fun _=>by omega,fun _=>by omega,fun _=>by omega,fun _=>by omega,fun _=>by omega,fun _=>by omega⟩
  ·have hh:=key 8 [1,4] e (by decide)
   simp only [kl,a1,a2,a3,kK (c:=c) (n:=n) (i:=1) (by decide) (by decide),kK (c:=c) (n:=n) (i:=2) (by decide) (by decide),kK (c:=c) (n:=n) (i:=3) (by decide) (by decide),fit1 (c:=c) (n:=n) (i:=1) (by decide) (by decide),fit2 (c:=c) (n:=n) (i:=2) (by decide) (by decide),fit3 (c:=c) (n:=n) (i:=2) (by decide) (by decide) (by omega) (by omega),fit4,fit5,fit6,get1,get2,get3,get4] at hh
   exact ⟨hk',fun _=>by omega,fun _=>by omega,fun _=>by omega,fun _=>by omega,fun _=>by omega,fun _=>by omega,fun _=>by omega⟩
  ·have hh:=key 9 [0,2,5,6] e (by decide)
   simp only [kl,a1,a2,a3,kK (c:=c) (n:=n) (i:=1) (by decide) (by decide),kK (c:=c) (n:=n) (i:=2) (by decide) (by decide),kK (c:=c) (n:=n) (i:=3) (by decide) (by decide),fit1 (c:=c) (n:=n) (i:=1) (by decide) (by decide),fit2 (c:=c) (n:=n) (i:=2) (by decide) (by decide),fit3 (c:=c) (n:=n) (i:=2) (by decide) (by decide) (by omega) (by omega),fit4,fit5,fit6,get1,get2,get3,get4] at hh
   exact ⟨hk',fun _=>by omega,fun _=>by omega,fun _=>by omega,fun _=>by omega,fun _=>by omega,fun _=>by omega,fun _=>by omega⟩
  ·have hh:=key 10 [] e (by decide)
   exact ⟨hk',fun _=>by omega,fun _=>by omega,fun _=>by omega,fun _=>by omega,fun _=>by omega,fun _=>by omega,fun _=>by omega⟩
  ·have hh:=key 20 [1,2] e (by decide)
   simp only [kl,a1,a2,a3,kK (c:=c) (n:=n) (i:=1) (by decide) (by decide),kK (c:=c) (n:=n) (i:=2) (by decide) (by decide),kK (c:=c) (n:=n) (i:=3) (by decide) (by decide),fit1 (c:=c) (n:=n) (i:=1) (by decide) (by decide),fit2 (c:=c) (n:=n) (i:=2) (by decide) (by decide),fit3 (c:=c) (n:=n) (i:=2) (by decide) (by decide) (by omega) (by omega),fit4,fit5,fit6,get1,get2,get3,get4] at hh
   exact ⟨hk',fun _=>by omega,fun _=>by omega,fun _=>by omega,fun _=>by omega,fun _=>by omega,fun _=>by omega,fun _=>by omega⟩
  ·have hh:=key 21 [1,2,6] e (by decide)
   simp only [kl,a1,a2,a3,kK (c:=c) (n:=n) (i:=1) (by decide) (by decide),kK (c:=c) (n:=n) (i:=2) (by decide) (by decide),kK (c:=c) (n:=n) (i:=3) (by decide) (by decide),fit1 (c:=c) (n:=n) (i:=1) (by decide) (by decide),fit2 (c:=c) (n:=n) (i:=2) (by decide) (by decide),fit3 (c:=c) (n:=n) (i:=2) (by decide) (by decide) (by omega) (by omega),fit4,fit5,fit6,get1,get2,get3,get4] at hh
   exact ⟨hk',fun _=>by omega,fun _=>by omega,fun _=>by omega,fun _=>by omega,fun _=>by omega,fun _=>by omega,fun _=>by omega⟩
  ·have hh:=key 22 [1,2,6,6] e (by decide)
   simp only [kl,a1,a2,a3,kK (c:=c) (n:=n) (i:=1) (by decide) (by decide),kK (c:=c) (n:=n) (i:=2) (by decide) (by decide),kK (c:=c) (n:=n) (i:=3) (by decide) (by decide),fit1 (c:=c) (n:=n) (i:=1) (by decide) (by decide),fit2 (c:=c) (n:=n) (i:=2) (by decide) (by decide),fit3 (c:=c) (n:=n) (i:=2) (by decide) (by decide) (by omega) (by omega),fit4,fit5,fit6,get1,get2,get3,get4] at hh
   exact ⟨hk',fun _=>by omega,fun _=>by omega,fun _=>by omega,fun _=>by omega,fun _=>by omega,fun _=>by omega,fun _=>by omega⟩
  ·have hh:=key 23 [1,2,6] e (by decide)
   simp only [kl,a1,a2,a3,kK (c:=c) (n:=n) (i:=1) (by decide) (by decide),kK (c:=c) (n:=n) (i:=2) (by decide) (by decide),kK (c:=c) (n:=n) (i:=3) (by decide) (by decide),fit1 (c:=c) (n:=n) (i:=1) (by decide) (by decide),fit2 (c:=c) (n:=n) (i:=2) (by decide) (by decide),fit3 (c:=c) (n:=n) (i:=2) (by decide) (by decide) (by omega) (by omega),fit4,fit5,fit6,get1,get2,get3,get4] at hh
   exact ⟨hk',fun _=>by omega,fun _=>by omega,fun _=>by omega,fun _=>by omega,fun _=>by omega,fun _=>by omega,fun _=>by omega⟩
namespace fAa
structure Keep (t t':T) (a b:Int):Prop where
 g:get t' a b = get t a b
 u:∀ p,under t' (get t a b) p = under t (get t a b) p
theorem Keep.refl (t:T) (a b:Int):Keep t t a b:=⟨rfl,fun _=>rfl⟩
theorem Keep.trans {t t' t'':T} {a b:Int} (h:Keep t t' a b) (h':Keep t' t'' a b):Keep t t'' a b :=
 ⟨h'.g.trans h.g,fun p=>by have:=h'.u p; rw [h.g] at this; rw [this]; exact h.u p⟩
theorem keep_put {t:T} (ok:Ok t) {e s:Int} (h:has t e s = true) (h0:(get t e s).fBa = 0) {c:Cap} (hc:0 <= c.fCa->has t c.fCa c.fDa = true/\(get t c.fCa c.fDa).fBa ≠ 0) {a b:Int} (hab:has t a b = true) (hne:(get t a b).fBa ≠ 0):Keep t (put t e s c) a b :=
 ⟨by rw [get_put ok.row h hab,if_neg]; rintro ⟨rfl,rfl⟩; exact hne h0,fun p=>under_put ok h h0 hc p _ a b (le_refl _) hab hne⟩
theorem keep_empties {t:T} (ok:Ok t) {l:List bZ} (hl:∀ p ∈ l,has t p.fCa p.fDa = true)
  (cl:∀ e s,has t e s = true->(get t e s).fBa ≠ 0->0 <= (get t e s).fCa->(⟨(get t e s).fCa,(get t e s).fDa⟩:bZ) ∈ l->(⟨e,s⟩:bZ) ∈ l) {a b:Int} (hab:has t a b = true) (hne:(get t a b).fBa ≠ 0) (hm:(⟨a,b⟩:bZ) ∉ l):Keep t (fVa t l) a b :=
 ⟨by rw [jB l t ok.row hl a b hab,if_neg hm],fun p=>under_empties ok hl cl p _ a b (le_refl _) hab hne hm⟩
theorem cap_zero {n:Int} {t:T} (F:eO n t) {e s:Int} (h:has t e s = true) (h0:(get t e s).fBa = 0):get t e s = mw:=by
 rcases F e s h with e1 | e1 | e1
 ·exact e1
 ·rw [e1.1] at h0; cases h0
 ·have:=(dr e1.2.2.2.1).1; omega
theorem put_put {t:T} {e s:Int} (c d:Cap) (h:has t e s = true):put (put t e s c) e s d = put t e s d:=by
 obtain ⟨m,n,rfl,rfl,hm,hn⟩:=has_nat h
 simp [put,hm]
theorem put_self {t:T} (row:∀ r ∈ t,r.length = 8) {e s:Int} (h:has t e s = true):put t e s (get t e s) = t:=by
 obtain ⟨m,n,rfl,rfl,hm,hn⟩:=has_nat h
 obtain ⟨h3,hg⟩:=get_nat' row hm hn
 rw [put_nat hm,hg]
 simp
theorem single {l:List bZ} {p:bZ} (nd:l.Nodup) (h:∀ x,x ∈ l↔x = p):l = [p]:=by
 match l,nd,h with
 | [],_,h=>exact absurd ((h p).2 rfl) (by simp)
 | [a],_,h=>rw [(h a).1 (by simp)]
 | a::b::l,nd,h =>
  have e1:=(h a).1 (by simp)
  have e2:=(h b).1 (by simp)
  rw [e1,e2] at nd
  simp at nd
theorem own_leaf {t:T} (ok:Ok t) {e s:Int} (h:has t e s = true) (hne:(get t e s).fBa ≠ 0) (hl:∀ a b,has t a b = true->(get t a b).fBa ≠ 0->under t (get t a b) ⟨e,s⟩ = false):own t e s = [⟨e,s⟩]:=by
 refine single (vR _ _ _) fun x=>?_
 constructor
 ·intro hx
  have h1:=(mem_own ok).1 hx
  rcases h1.2.2 with h2 | h2
  ·exact h2
  ·rw [hl _ _ h1.1 h1.2.1] at h2; cases h2
 ·rintro rfl
  exact (mem_own ok).2 ⟨h,hne,.inl rfl⟩
end fAa
end
section
open Go Mb
namespace fAa
theorem rP:∀ (l m:List bZ) (t:T),fVa t (l++m) = fVa (fVa t l) m
 | [],_,_=>rfl
 | p::l,m,t=>by simp only [List.cons_append,fVa]; exact rP l m _
def fYa (t:T) (e s:Int) (w:Bool):List bZ:=if w = true then below t e s++[⟨e,s⟩] else below t e s
theorem mem_goers {t:T} (ok:Ok t) {e s:Int} {w:Bool} (h:has t e s = true) (hn:(get t e s).fBa ≠ 0) {p:bZ}:p ∈ fYa t e s w↔has t p.fCa p.fDa = true/\(get t p.fCa p.fDa).fBa ≠ 0/\((w = true/\p = ⟨e,s⟩)\/under t (get t p.fCa p.fDa) ⟨e,s⟩ = true):=by
 unfold fYa
 cases w with
 | false =>
  rw [if_neg Bool.false_ne_true,mem_below ok]
  constructor
  ·exact fun ⟨a,b,c⟩=>⟨a,b,.inr c⟩
  ·rintro ⟨a,b,c | c⟩
   ·cases c.1
   ·exact ⟨a,b,c⟩
 | true =>
  rw [if_pos rfl,List.mem_append,mem_below ok,List.mem_singleton]
  constructor
  ·rintro (⟨a,b,c⟩ | rfl)
   ·exact ⟨a,b,.inr c⟩
   ·exact ⟨h,hn,.inl ⟨rfl,rfl⟩⟩
  ·rintro ⟨a,b,c | c⟩
   ·exact .inr c.2
   ·exact .inl ⟨a,b,c⟩
theorem goers_nd {t:T} (ok:Ok t) {e s:Int} {w:Bool} (h:has t e s = true):(fYa t e s w).Nodup:=by
 unfold fYa
 split
 ·refine List.nodup_append.2 ⟨vR _ _ _,by simp,fun a ha b hb hab=>?_⟩
  rw [List.mem_singleton] at hb
  subst hb; subst hab
  have:=((mem_below ok).1 ha).2.2
  rw [not_under_self ok h] at this
  cases this
 ·exact vR _ _ _
theorem goers_cl {t:T} (ok:Ok t) {e s:Int} {w:Bool} (h:has t e s = true) (hn:(get t e s).fBa ≠ 0):∀ a b,has t a b = true->(get t a b).fBa ≠ 0->0 <= (get t a b).fCa->(⟨(get t a b).fCa,(get t a b).fDa⟩:bZ) ∈ fYa t e s w->(⟨a,b⟩:bZ) ∈ fYa t e s w:=by
 intro a b hab hne hen hp
 have h1:=(mem_goers ok h hn).1 hp
 refine (mem_goers ok h hn).2 ⟨hab,hne,.inr ?_⟩
 rw [under_step ok hab,if_pos ⟨hne,hen⟩]
 split
 ·rfl
 ·rename_i hno
  rcases h1.2.2 with h2 | h2
  ·exact absurd ⟨congrArg aH.fCa h2.2,congrArg aH.fDa h2.2⟩ hno
  ·exact h2
theorem goers_has {t:T} (ok:Ok t) {e s:Int} {w:Bool} (h:has t e s = true) (hn:(get t e s).fBa ≠ 0):∀ p ∈ fYa t e s w,has t p.fCa p.fDa = true:=fun _ hp=>((mem_goers ok h hn).1 hp).1
theorem drop_after {t:T} (ok:Ok t) {e s:Int} (h:has t e s = true) (hn:(get t e s).fBa ≠ 0):drop (fVa t (below t e s)) e s = (([⟨e,s⟩],0),fVa t (fYa t e s true)):=by
 have ok1:=ok_below ok e s
 have hl:∀ p ∈ below t e s,has t p.fCa p.fDa = true:=fun p hp=>((mem_below ok).1 hp).1
 have hself:(⟨e,s⟩:bZ) ∉ below t e s:=fun hm=>by
  have:=((mem_below ok).1 hm).2.2
  rw [not_under_self ok h] at this; cases this
 have hg:get (fVa t (below t e s)) e s = get t e s:=by rw [jB _ t ok.row hl e s h,if_neg hself]
 have hh:has (fVa t (below t e s)) e s = true:=by rw [empties_has]; exact h
 have ho:own (fVa t (below t e s)) e s = [⟨e,s⟩]:=by
  refine own_leaf ok1 hh (by rw [hg]; exact hn) fun a b hab hne=>?_
  rw [empties_has] at hab
  rw [jB _ t ok.row hl a b hab] at hne ⊢
  by_cases hm:(⟨a,b⟩:bZ) ∈ below t e s
  ·rw [if_pos hm] at hne; exact absurd rfl hne
  ·rw [if_neg hm] at hne ⊢
   rw [under_empties ok hl (below_closed ok e s) _ _ a b (le_refl _) hab hne hm]
   cases hu:under t (get t a b) ⟨e,s⟩ with
   | false=>rfl
   | true=>exact absurd ((mem_below ok).2 ⟨hab,hne,hu⟩) hm
 unfold drop
 have hlook:look (fVa t (below t e s)) e s = 0:=by unfold look; rw [hh,hg,if_neg (by simp),if_neg hn]
 rw [if_neg (by rw [hlook]; simp),ho]
 unfold fYa
 rw [if_pos rfl,rP]
end fAa
theorem unmaps_get {ps:List Pte} (hl:ps.length = 8):∀ (l:List Int) {ps:List Pte},ps.length = 8->∀ pg,Table.get (PK.unmaps ps l) pg = if pg ∈ l then (dn,false) else Table.get ps pg
 | [],_,_,pg=>by simp [PK.unmaps]
 | i::l,ps,hl,pg=>by
  rw [PK.unmaps,unmaps_get hl l (by rw [Table.remove_len]; exact hl) pg,Table.get_remove hl]
  by_cases h1:pg ∈ l
  ·rw [if_pos h1,if_pos (by simp [h1])]
  ·rw [if_neg h1]
   by_cases h2:pg = i
   ·rw [if_pos h2,if_pos (by simp [h2])]
   ·rw [if_neg h2,if_neg (by simp [h1,h2])]
theorem unmap_get {ps:List Pte} (hl:ps.length = 8) (s pg:Int):(Table.get (PK.unmap ps s) pg).1 = if (Table.get ps pg).1.fBa ≠ 0/\(Table.get ps pg).1.fDa = s then dn else (Table.get ps pg).1:=by
 unfold PK.unmap
 rw [unmaps_get hl _ hl]
 by_cases h:pg ∈ Table.by_ ps s
 ·have:=(Table.mem_by hl).1 h
  rw [Table.get_snd] at this
  rw [if_pos h,if_pos ⟨by simpa using this.1,this.2⟩]
 ·rw [if_neg h,if_neg]
  rintro ⟨h1,h2⟩
  exact h ((Table.mem_by hl).2 ⟨by rw [Table.get_snd]; simpa using h1,h2⟩)
namespace PK
theorem gone_same:∀ (l:List bZ) (k:PK) (f:Int),(gone k f l).caps = k.caps/\(gone k f l).s = k.s/\(gone k f l).m = k.m
 | [],_,_=>⟨rfl,rfl,rfl⟩
 | p::l,k,f=>by
  have:=gone_same l { k with tabs:=k.tabs.set p.fCa.toNat (unmap (tab k p.fCa) p.fDa),pool:=(Pool.lets k.pool f).2.2 } f
  exact this
theorem gone_q:∀ (l:List bZ) {k:PK} (_:PK.Ok k) (f:Int),(∀ p ∈ l,off k p.fCa = false)->∀ e pg,q (gone k f l) e pg = if (q k e pg).fBa ≠ 0/\(⟨e,(q k e pg).fDa⟩:bZ) ∈ l then dn else q k e pg
 | [],k,_,_,_,e,pg=>by simp [gone]
 | p::l,k,ok,f,hl,e,pg=>by
  have hp:=hl p (by simp)
  have ht:=tab_in ok hp
  have h1:=lets_fine ok.pr f
  have h2:=ok_tabs ok p.fCa (ps:=unmap (tab k p.fCa) p.fDa) (fun h=>tab_unmaps _ (tab_ok ok _ h))
  have h3:PK.Ok { k with tabs:=k.tabs.set p.fCa.toNat (unmap (tab k p.fCa) p.fDa),pool:=(Pool.lets k.pool f).2.2 } :=
   ⟨h2.sz,h2.ml,h2.mr,h2.tl,h2.tr,by rw [← ok.pl]; exact congrArg Int.ofNat h1.1,h1.2,h2.cl,h2.tree,h2.fine⟩
  have hq:q { k with tabs:=k.tabs.set p.fCa.toNat (unmap (tab k p.fCa) p.fDa),pool:=(Pool.lets k.pool f).2.2 } e pg = if (q k e pg).fBa ≠ 0/\(⟨e,(q k e pg).fDa⟩:bZ) = p then dn else q k e pg:=by
   have h4:q { k with tabs:=k.tabs.set p.fCa.toNat (unmap (tab k p.fCa) p.fDa),pool:=(Pool.lets k.pool f).2.2 } e pg = q { k with tabs:=k.tabs.set p.fCa.toNat (unmap (tab k p.fCa) p.fDa) } e pg:=q_same rfl rfl e pg
   rw [h4,q_tabs ok hp]
   by_cases he:e = p.fCa
   ·subst he
    rw [if_pos rfl,unmap_get ht.2,← vu hp]
    by_cases hs:(q k p.fCa pg).fBa ≠ 0/\(q k p.fCa pg).fDa = p.fDa
    ·rw [if_pos hs,if_pos ⟨hs.1,by rw [hs.2]⟩]
    ·rw [if_neg hs,if_neg]
     rintro ⟨a,b⟩
     exact hs ⟨a,congrArg aH.fDa b⟩
   ·rw [if_neg he,if_neg]
    rintro ⟨_,b⟩
    exact he (congrArg aH.fCa b)
  have ih:=gone_q l h3 f (fun x hx=>hl x (by simp [hx])) e pg
  show q (gone _ f l) e pg = _
  rw [ih,hq]
  by_cases c1:(q k e pg).fBa ≠ 0/\(⟨e,(q k e pg).fDa⟩:bZ) = p
  ·rw [if_pos c1,if_neg (fun h=>h.1 rfl),if_pos ⟨c1.1,by rw [c1.2]; simp⟩]
  ·rw [if_neg c1]
   by_cases c2:(q k e pg).fBa ≠ 0/\(⟨e,(q k e pg).fDa⟩:bZ) ∈ l
   ·rw [if_pos c2,if_pos ⟨c2.1,by simp [c2.2]⟩]
   ·rw [if_neg c2,if_neg]
    rintro ⟨a,b⟩
    rcases List.mem_cons.1 b with b | b
    ·exact c1 ⟨a,b⟩
    ·exact c2 ⟨a,b⟩
theorem refs_nn {p:List Int} {g:Int} (hg:0 <= g):Pool.refs p g = (p[g.toNat]?).getD 0:=by unfold Pool.refs; rw [if_neg (show ¬ g < 0 by omega),List.getD_eq_getElem?_getD]
theorem refs_set {p:List Int} {i:Int} (h0:0 <= i) (h1:i < p.length) (v g:Int) (hg:0 <= g):Pool.refs (p.set i.toNat v) g = if g = i then v else Pool.refs p g:=by
 rw [refs_nn hg,refs_nn hg,List.getElem?_set]
 by_cases e:g = i
 ·subst e
  rw [if_pos rfl,if_pos rfl,if_pos (show g.toNat < p.length by omega)]; rfl
 ·rw [if_neg (show ¬ i.toNat = g.toNat by omega),if_neg e]
theorem refs_in {p:List Int} {i:Int} (h:Pool.refs p i ≠ 0):0 <= i/\i < p.length:=by
 unfold Pool.refs at h
 split at h
 ·exact absurd rfl h
 ·refine ⟨by omega,?_⟩
  by_cases hi:i.toNat < p.length
  ·omega
  ·simp [List.getD_eq_getElem?_getD,List.getElem?_eq_none (Nat.le_of_not_lt hi)] at h
theorem gone_pool:∀ (l:List bZ) {k:PK} (f:Int),(∀ n ∈ k.pool,0 <= n/\n <= 7)->(l.length:Int) <= Pool.refs k.pool f->∀ g,0 <= g->Pool.refs (gone k f l).pool g = if g = f then Pool.refs k.pool f - l.length else Pool.refs k.pool g
 | [],k,f,_,_,g,_=>by simp only [gone,List.length_nil]; split <;> simp_all
 | p::l,k,f,hk,hl,g,hg=>by
  simp only [List.length_cons] at hl ⊢
  have hr:=refs_fine hk f
  have hne:Pool.refs k.pool f ≠ 0:=by omega
  have hin:=refs_in hne
  have hlets:(Pool.lets k.pool f).2.2 = k.pool.set f.toNat (Pool.refs k.pool f - 1):=by
   unfold Pool.lets; rw [if_neg hne]
   show k.pool.set f.toNat (i64.wrap (Pool.refs k.pool f - 1)) = _
   rw [wrapR (by omega) (by omega)]
  have h2:Pool.refs (Pool.lets k.pool f).2.2 f = Pool.refs k.pool f - 1:=by rw [hlets,refs_set hin.1 hin.2 _ _ hin.1,if_pos rfl]
  have ih:=gone_pool l (k:={ k with tabs:=k.tabs.set p.fCa.toNat (unmap (tab k p.fCa) p.fDa),pool:=(Pool.lets k.pool f).2.2 }) f (lets_fine hk f).2 (by show (l.length:Int) <= Pool.refs (Pool.lets k.pool f).2.2 f; rw [h2]; omega) g hg
  show Pool.refs (gone _ f l).pool g = _
  rw [ih]
  by_cases e:g = f
  ·rw [if_pos e,if_pos e]
   show Pool.refs (Pool.lets k.pool f).2.2 f - _ = _
   rw [h2]; omega
  ·rw [if_neg e,if_neg e]
   show Pool.refs (Pool.lets k.pool f).2.2 g = _
   rw [hlets,refs_set hin.1 hin.2 _ _ hg,if_neg e]
end PK
end
section
open Go Mb
theorem idx_spec (a:Int):∀ (xs:List Int) (i:Int),(fE a xs i = -1/\a ∉ xs)\/∃ n:Nat,fE a xs i = i + n/\xs[n]? = some a/\∀ m,m < n->xs[m]? ≠ some a
 | [],_=>.inl ⟨rfl,by simp⟩
 | x::xs,i=>by
  unfold fE
  split
  ·rename_i h; subst h
   exact .inr ⟨0,by simp,rfl,fun m hm=>by omega⟩
  ·rename_i h
   rcases idx_spec a xs (i + 1) with ⟨h1,h2⟩ | ⟨n,h1,h2,h3⟩
   ·exact .inl ⟨h1,by simp [h,h2]⟩
   ·refine .inr ⟨n + 1,by rw [h1]; omega,h2,fun m hm=>?_⟩
    cases m with
    | zero=>simp; exact fun e=>h e.symm
    | succ m=>exact h3 m (by omega)
namespace fAa
theorem under_empty {t:T} (ok:Ok t) {p:bZ} (h0:(get t p.fCa p.fDa).fBa = 0):∀ (n:Nat) (a b:Int),deep 40 t (get t a b) <= n->has t a b = true->under t (get t a b) p = false:=by
 intro n
 induction n with
 | zero =>
  intro a b hd hab
  rw [under_step ok hab]
  by_cases hen:(get t a b).fBa ≠ 0/\0 <= (get t a b).fCa
  ·have:=deep_step ok hab hen; omega
  ·rw [if_neg hen]
 | succ n ih =>
  intro a b hd hab
  rw [under_step ok hab]
  by_cases hen:(get t a b).fBa ≠ 0/\0 <= (get t a b).fCa
  ·have hd2:=deep_step ok hab hen
   obtain ⟨p1,p2⟩:=parent_has ok hab hen.1 hen.2
   rw [if_pos hen,if_neg,ih _ _ (by omega) p1]
   rintro ⟨e1,e2⟩
   rw [e1,e2] at p2; exact p2 h0
  ·rw [if_neg hen]
theorem cnt_put0 (f:Int) {t:T} (row:∀ r ∈ t,r.length = 8) {e s:Int} (h:has t e s = true) (h0:(get t e s).fBa = 0) {c:Cap} (hc:c.fBa ≠ 0):cnt f (put t e s c) = cnt f t + (if c.fEa = f then 1 else 0):=by
 have h1:=cnt_put f row h c
 have h2:b2n (isF f (get t e s)) = 0:=by unfold b2n isF; simp [h0]
 have h3:b2n (isF f c) = if c.fEa = f then 1 else 0:=by unfold b2n isF; by_cases e:c.fEa = f <;> simp [hc,e]
 omega
end fAa
namespace PK
structure Mv (k k':PK):Prop where
 fine:Fine k'
 s:k'.s = k.s
 keep:∀ e pg,(q k e pg).fBa ≠ 0->(q k' e pg).fBa ≠ 0->fAa.Keep k.caps k'.caps e (q k e pg).fDa
def Mono (k k':PK):Prop:=∀ e pg,(q k e pg).fBa ≠ 0->q k' e pg = q k e pg
theorem Mv.refl {k:PK} (F:Fine k):Mv k k:=⟨F,rfl,fun _ _ _ _=>fAa.Keep.refl _ _ _⟩
theorem Mono.refl (k:PK):Mono k k:=fun _ _ _=>rfl
theorem has_iff {k:PK} (ok:PK.Ok k) {e s:Int}:fAa.has k.caps e s = true↔off k e = false/\0 <= s/\s < 8:=by
 have:=ok.cl
 rw [off_iff]
 unfold fAa.has
 constructor
 ·intro h; have:=of_decide_eq_true h; omega
 ·intro h; exact decide_eq_true (by omega)
theorem fine_frame {n:Int} {t:fAa.T} (F:eO n t) {e s:Int} (h:fAa.has t e s = true) (hr:(fAa.get t e s).fBa ≠ 0):0 <= (fAa.get t e s).fEa/\(fAa.get t e s).fEa < n:=by
 rcases F e s h with e1 | e1 | e1
 ·rw [e1] at hr; exact absurd rfl hr
 ·exact ⟨e1.2.2.2.1,e1.2.2.2.2⟩
 ·exact ⟨e1.2.1,e1.2.2.1⟩
theorem mv_put {k k':PK} (F:Fine k) (ok':PK.Ok k') {e s:Int} {c:Cap} (hs:k'.s = k.s) (ht:k'.tabs = k.tabs) (hh:fAa.has k.caps e s = true) (h0:(fAa.get k.caps e s).fBa = 0) (hc:0 <= c.fCa->fAa.has k.caps c.fCa c.fDa = true/\(fAa.get k.caps c.fCa c.fDa).fBa ≠ 0)
  (hcaps:k'.caps = fAa.put k.caps e s c) (num:∀ f:Int,0 <= f->f < k'.s.fXa->Pool.refs k'.pool f = fAa.cnt f k'.caps):Mv k k'/\Mono k k':=by
 have qs:=q_same ht hs
 have kp:∀ a b,fAa.has k.caps a b = true->(fAa.get k.caps a b).fBa ≠ 0->fAa.Keep k.caps k'.caps a b:=fun a b h1 h2=>by rw [hcaps]; exact fAa.keep_put F.ok.tree hh h0 hc h1 h2
 refine ⟨⟨⟨ok',fun a pg hq=>?_,num⟩,hs,fun a pg hq _=>?_⟩,fun a pg _=>qs a pg⟩
 ·rw [qs] at hq ⊢
  obtain ⟨h1,h2,h3⟩:=F.by_ a pg hq
  have hn:(fAa.get k.caps a (q k a pg).fDa).fBa ≠ 0:=by have:=(dr h3).2; omega
  have:=(kp a _ h1 hn).g
  rw [this]
  exact ⟨by rw [hcaps,fAa.put_has]; exact h1,h2,h3⟩
 ·obtain ⟨h1,h2,h3⟩:=F.by_ a pg hq
  exact kp a _ h1 (by have:=(dr h3).2; omega)
theorem pY (t:fAa.T) (e s:Int):(fAa.at_ t e s).2 = true↔fAa.has t e s = true/\(fAa.get t e s).fBa ≠ 0:=by
 unfold fAa.at_; split <;> simp_all
theorem at_of {t:fAa.T} {e s:Int} (h:fAa.has t e s = true) (hr:(fAa.get t e s).fBa ≠ 0):fAa.at_ t e s = (fAa.get t e s,true):=by unfold fAa.at_; rw [if_pos ⟨h,hr⟩]
theorem mv_alloc {k:PK} (F:Fine k) {e s:Int} (hh:fAa.has k.caps e s = true):Mv k (alloc k e s).2/\Mono k (alloc k e s).2:=by
 have oka:=ok_alloc F.ok e s
 unfold alloc at oka ⊢
 split
 ·exact ⟨.refl F,.refl k⟩
 ·rename_i h1
  rw [if_neg h1] at oka
  split
  ·exact ⟨.refl F,.refl k⟩
  ·rename_i h2
   rw [if_neg h2] at oka
   have h0:(fAa.get k.caps e s).fBa = 0:=by
    cases Decidable.em ((fAa.get k.caps e s).fBa = 0) with
    | inl h=>exact h
    | inr h=>exact absurd ((pY _ _ _).2 ⟨hh,h⟩) h1
   have ht:=take_in (by simpa using h2)
   have hsz:=gb.1 F.ok.sz
   have hpl:=F.ok.pl
   have hroot:fAa.root k.caps e s (Pool.take k.pool).1 = (0,fAa.put k.caps e s ⟨(Pool.take k.pool).1,3,-1,0⟩):=by
    unfold fAa.root
    rw [if_neg (by rw [hh]; simp; omega),if_neg (by simp [h0])]
   rw [hroot] at oka ⊢
   refine mv_put F oka rfl rfl hh h0 (fun h=>absurd h (by show ¬ (0:Int) <= -1; omega)) rfl fun f f0 f1=>?_
   rcases idx_spec 0 k.pool 0 with ⟨i1,_⟩ | ⟨n,i1,i2,_⟩
   ·exfalso; apply h2; unfold Pool.take; rw [if_pos (by rw [i1]; decide)]
   ·have htk:Pool.take k.pool = ((n:Int),true,k.pool.set n 1):=by
     unfold Pool.take; rw [if_neg (by rw [i1]; omega),i1]; simp
    rw [htk]
    have hn:=(List.getElem?_eq_some_iff.1 i2).1
    show Pool.refs (k.pool.set n 1) f = (fAa.cnt f (fAa.put k.caps e s ⟨(n:Int),3,-1,0⟩):Int)
    rw [fAa.cnt_put0 f F.ok.tree.row hh h0 (show (3:Int) ≠ 0 by decide)]
    have:=refs_set (p:=k.pool) (i:=(n:Int)) (by omega) (by omega) 1 f f0
    rw [toNat_natCast] at this
    rw [this]
    have hnum:=F.num f f0 f1
    by_cases e1:f = n
    ·subst e1
     rw [if_pos rfl,if_pos rfl]
     rw [refs_nn (by omega),toNat_natCast,i2] at hnum
     simp at hnum
     omega
    ·rw [if_neg e1,if_neg (by simp; omega),hnum]; simp
theorem mv_derive {k:PK} (F:Fine k) {e src to dst r:Int} (h1:fAa.has k.caps e src = true) (h2:fAa.has k.caps to dst = true):Mv k (derive k e src to dst r).2/\Mono k (derive k e src to dst r).2:=by
 have oka:=ok_derive F.ok e src to dst r
 unfold derive at oka ⊢
 split
 ·exact ⟨.refl F,.refl k⟩
 ·rename_i h0
  rw [if_neg h0] at oka
  have hd:ci r = true/\(fAa.get k.caps e src).fBa ≠ 0/\(fAa.get k.caps to dst).fBa = 0/\fAa.derive k.caps e src to dst r = (0,fAa.put k.caps to dst ⟨(fAa.get k.caps e src).fEa,r,e,src⟩):=by
   unfold fAa.derive at h0 ⊢
   split at h0
   ·exact absurd (by simp) h0
   ·rename_i c1
    rw [if_neg c1]
    split at h0
    ·exact absurd (by simp) h0
    ·rename_i c2
     rw [if_neg c2]
     split at h0
     ·exact absurd (by simp) h0
     ·rename_i c3
      rw [if_neg c3]
      split at h0
      ·exact absurd (by simp) h0
      ·rename_i c4
       rw [if_neg c4]
       simp only [not_or,Bool.not_eq_false] at c1
       exact ⟨c1.2.2,c2,by simpa using c3,rfl⟩
  obtain ⟨hm,hsr,hds,he⟩:=hd
  have hr0:r ≠ 0:=by have:=vH.1 hm; omega
  have hev:0 <= e:=((has_iff F.ok).1 h1).1 |> fun h=>(off_iff.1 h).1
  rw [he] at oka ⊢
  have hpg:fAa.get (fAa.put k.caps to dst ⟨(fAa.get k.caps e src).fEa,r,e,src⟩) to dst = ⟨(fAa.get k.caps e src).fEa,r,e,src⟩:=by rw [fAa.get_put F.ok.tree.row h2 h2,if_pos ⟨rfl,rfl⟩]
  have hat:fAa.at_ (fAa.put k.caps to dst ⟨(fAa.get k.caps e src).fEa,r,e,src⟩) to dst = (⟨(fAa.get k.caps e src).fEa,r,e,src⟩,true):=by
   rw [at_of (by rw [fAa.put_has]; exact h2) (by rw [hpg]; exact hr0),hpg]
  have hc:0 <= e->fAa.has k.caps e src = true/\(fAa.get k.caps e src).fBa ≠ 0:=fun _=>⟨h1,hsr⟩
  have hfr:=fine_frame F.ok.fine h1 hsr
  have hpos:=fAa.cnt_pos F.ok.tree.row h1 hsr rfl
  have hnum:=F.num _ hfr.1 hfr.2
  simp only [hat] at oka ⊢
  split
  ·rename_i h3
   have okp:=fAa.ok_put F.ok.tree h2 hds ⟨(fAa.get k.caps e src).fEa,r,e,src⟩ hc
   have hleaf:fAa.drop (fAa.put k.caps to dst ⟨(fAa.get k.caps e src).fEa,r,e,src⟩) to dst = (([⟨to,dst⟩],0),k.caps):=by
    have ho:fAa.own (fAa.put k.caps to dst ⟨(fAa.get k.caps e src).fEa,r,e,src⟩) to dst = [⟨to,dst⟩]:=by
     refine fAa.own_leaf okp (by rw [fAa.put_has]; exact h2) (by rw [hpg]; exact hr0) fun a b hab hne=>?_
     rw [fAa.put_has] at hab
     by_cases hs:a = to/\b = dst
     ·obtain ⟨rfl,rfl⟩:=hs
      exact fAa.not_under_self okp (by rw [fAa.put_has]; exact h2)
     ·have hg:fAa.get (fAa.put k.caps to dst ⟨(fAa.get k.caps e src).fEa,r,e,src⟩) a b = fAa.get k.caps a b:=by rw [fAa.get_put F.ok.tree.row h2 hab,if_neg hs]
      rw [hg] at hne ⊢
      rw [fAa.under_put F.ok.tree h2 hds hc _ _ a b (le_refl _) hab hne]
      exact fAa.under_empty F.ok.tree (p:=⟨to,dst⟩) hds _ a b (le_refl _) hab
    have hlook:fAa.look (fAa.put k.caps to dst ⟨(fAa.get k.caps e src).fEa,r,e,src⟩) to dst = 0:=by
     unfold fAa.look; rw [if_neg (by rw [fAa.put_has,h2]; simp),if_neg (by rw [hpg]; exact hr0)]
    unfold fAa.drop
    rw [if_neg (by rw [hlook]; simp),ho]
    show ((_,_),fAa.put (fAa.put k.caps to dst _) to dst mw) = _
    rw [fAa.put_put _ _ h2,← fAa.cap_zero F.ok.fine h2 hds,fAa.put_self F.ok.tree.row h2]
   rw [hleaf]
   exact ⟨.refl F,.refl k⟩
  ·rename_i h3
   rw [if_neg h3] at oka
   refine mv_put F oka rfl rfl h2 hds hc rfl fun f f0 f1=>?_
   have hh:Pool.hold k.pool (fAa.get k.caps e src).fEa = (true,k.pool.set (fAa.get k.caps e src).fEa.toNat (Pool.refs k.pool (fAa.get k.caps e src).fEa + 1)):=by
    unfold Pool.hold at h3 ⊢
    split at h3
    ·exact absurd rfl h3
    ·rename_i c1
     have hrf:=refs_fine F.ok.pr (fAa.get k.caps e src).fEa
     rw [if_neg c1,wrapR (by omega) (by omega)]
   rw [hh]
   show Pool.refs (k.pool.set _ _) f = (fAa.cnt f (fAa.put k.caps to dst _):Int)
   rw [fAa.cnt_put0 f F.ok.tree.row h2 hds (show r ≠ 0 from hr0)]
   have hpl:=F.ok.pl
   rw [refs_set hfr.1 (by omega) _ f f0]
   have hnf:=F.num f f0 f1
   by_cases e1:f = (fAa.get k.caps e src).fEa
   ·rw [if_pos e1,if_pos e1.symm,← e1,hnf]; simp
   ·rw [if_neg e1,if_neg (fun h=>e1 h.symm),hnf]; simp
end PK
end
section
open Go Mb
namespace PK
theorem goers_frame {k:PK} (F:Fine k) {e s:Int} {w:Bool} (h:fAa.has k.caps e s = true) (hn:(fAa.get k.caps e s).fBa ≠ 0) {p:bZ} (hp:p ∈ fAa.fYa k.caps e s w):(fAa.get k.caps p.fCa p.fDa).fEa = (fAa.get k.caps e s).fEa:=by
 obtain ⟨h1,h2,h3⟩:=(fAa.mem_goers F.ok.tree h hn).1 hp
 rcases h3 with ⟨_,rfl⟩ | h3
 ·rfl
 ·exact fAa.under_frame F.ok.tree F.ok.fine _ _ _ (le_refl _) h1 _ h3
theorem revoke_eq {k:PK} (F:Fine k) {e s:Int} {w:Bool} (h:fAa.has k.caps e s = true) (hn:(fAa.get k.caps e s).fBa ≠ 0) :
  revoke k e s w = (⟨0,u64.wrap (fAa.fYa k.caps e s w).length⟩,gone { k with caps:=fAa.fVa k.caps (fAa.fYa k.caps e s w) } (fAa.get k.caps e s).fEa (fAa.fYa k.caps e s w)):=by
 have hlook:fAa.look k.caps e s = 0:=by unfold fAa.look; rw [if_neg (by rw [h]; simp),if_neg hn]
 have hrv:fAa.revoke k.caps e s = ((fAa.below k.caps e s,0),fAa.fVa k.caps (fAa.below k.caps e s)):=by unfold fAa.revoke; rw [if_neg (by rw [hlook]; simp)]
 unfold revoke
 rw [hrv,if_neg (by simp),at_of h hn]
 cases w with
 | true =>
  rw [if_pos rfl]
  simp only [fAa.drop_after F.ok.tree h hn]
  unfold fAa.fYa
  rw [if_pos rfl]
 | false =>
  rw [if_neg Bool.false_ne_true]
  unfold fAa.fYa
  rw [if_neg Bool.false_ne_true]
theorem revoke_no {k:PK} {e s:Int} {w:Bool} (h:fAa.has k.caps e s = true) (hn:(fAa.get k.caps e s).fBa = 0):revoke k e s w = (⟨3,0⟩,k):=by
 have hlook:fAa.look k.caps e s = 3:=by unfold fAa.look; rw [if_neg (by rw [h]; simp),if_pos hn]
 have hrv:fAa.revoke k.caps e s = (([],3),k.caps):=by unfold fAa.revoke; rw [if_pos (by rw [hlook]; simp),hlook]
 unfold revoke
 rw [hrv,if_pos (by simp)]
theorem revoke_q {k:PK} (F:Fine k) {e s:Int} {w:Bool} (h:fAa.has k.caps e s = true) (hn:(fAa.get k.caps e s).fBa ≠ 0) (a pg:Int) :
  q (revoke k e s w).2 a pg = if (q k a pg).fBa ≠ 0/\(⟨a,(q k a pg).fDa⟩:bZ) ∈ fAa.fYa k.caps e s w then dn else q k a pg:=by
 rw [revoke_eq F h hn]
 have ok1:=ok_caps F.ok (t:=fAa.fVa k.caps (fAa.fYa k.caps e s w)) (fAa.empties_len _ _) (fAa.ok_empties F.ok.tree (fAa.goers_has F.ok.tree h hn) (fAa.goers_cl F.ok.tree h hn)) (fAa.fine_empties F.ok.tree F.ok.fine (fAa.goers_has F.ok.tree h hn) (fAa.goers_cl F.ok.tree h hn))
 exact gone_q _ ok1 _ (fun p hp=>((has_iff F.ok).1 (fAa.goers_has F.ok.tree h hn p hp)).1) a pg
theorem mv_revoke {k:PK} (F:Fine k) {e s:Int} {w:Bool} (h:fAa.has k.caps e s = true):Mv k (revoke k e s w).2:=by
 by_cases hn:(fAa.get k.caps e s).fBa = 0
 ·rw [revoke_no h hn]; exact .refl F
 have okr:=ok_revoke F.ok e s w
 have hq:=revoke_q F (w:=w) h hn
 rw [revoke_eq F h hn] at okr hq ⊢
 have hgs:=gone_same (fAa.fYa k.caps e s w) { k with caps:=fAa.fVa k.caps (fAa.fYa k.caps e s w) } (fAa.get k.caps e s).fEa
 have hcl:=fAa.goers_cl F.ok.tree (w:=w) h hn
 have hhas:=fAa.goers_has F.ok.tree (w:=w) h hn
 have hcaps:(gone { k with caps:=fAa.fVa k.caps (fAa.fYa k.caps e s w) } (fAa.get k.caps e s).fEa (fAa.fYa k.caps e s w)).caps = fAa.fVa k.caps (fAa.fYa k.caps e s w):=hgs.1
 have hss:(gone { k with caps:=fAa.fVa k.caps (fAa.fYa k.caps e s w) } (fAa.get k.caps e s).fEa (fAa.fYa k.caps e s w)).s = k.s:=hgs.2.1
 have keep:∀ a pg,(q k a pg).fBa ≠ 0->(⟨a,(q k a pg).fDa⟩:bZ) ∉ fAa.fYa k.caps e s w->fAa.Keep k.caps (fAa.fVa k.caps (fAa.fYa k.caps e s w)) a (q k a pg).fDa:=fun a pg h1 h2=>by
  obtain ⟨b1,b2,b3⟩:=F.by_ a pg h1
  exact fAa.keep_empties F.ok.tree hhas hcl b1 (by have:=(dr b3).2; omega) h2
 refine ⟨⟨okr,fun a pg hne=>?_,fun f f0 f1=>?_⟩,hss,fun a pg h1 h2=>?_⟩
 ·simp only at hne ⊢
  rw [hcaps]
  have hq':q (gone { k with caps:=fAa.fVa k.caps (fAa.fYa k.caps e s w) } (fAa.get k.caps e s).fEa (fAa.fYa k.caps e s w)) a pg = _:=hq a pg
  rw [hq'] at hne ⊢
  split at hne
  ·exact absurd rfl hne
  ·rename_i hc
   rw [if_neg hc]
   obtain ⟨b1,b2,b3⟩:=F.by_ a pg hne
   have:=(keep a pg hne (fun hm=>hc ⟨hne,hm⟩)).g
   rw [this]
   exact ⟨by rw [fAa.empties_has]; exact b1,b2,b3⟩
 ·simp only at f1 ⊢
  rw [hss] at f1
  rw [hcaps]
  have hfr:=fine_frame F.ok.fine h hn
  have hcnt:=fAa.cnt_empties f (fAa.fYa k.caps e s w) F.ok.tree.row (fAa.goers_nd F.ok.tree h) (fun p hp=>⟨hhas p hp,((fAa.mem_goers F.ok.tree h hn).1 hp).2.1⟩)
  have hcnt0:=fAa.cnt_empties (fAa.get k.caps e s).fEa (fAa.fYa k.caps e s w) F.ok.tree.row (fAa.goers_nd F.ok.tree h) (fun p hp=>⟨hhas p hp,((fAa.mem_goers F.ok.tree h hn).1 hp).2.1⟩)
  have hall:(fAa.fYa k.caps e s w).countP (fun p=>decide ((fAa.get k.caps p.fCa p.fDa).fEa = (fAa.get k.caps e s).fEa)) = (fAa.fYa k.caps e s w).length:=by
   rw [List.countP_eq_length]
   intro p hp
   simp [goers_frame F h hn hp]
  rw [hall] at hcnt0
  have hnum0:=F.num _ hfr.1 hfr.2
  have hp:=gone_pool (fAa.fYa k.caps e s w) (k:={ k with caps:=fAa.fVa k.caps (fAa.fYa k.caps e s w) }) (fAa.get k.caps e s).fEa F.ok.pr (by show _ <= Pool.refs k.pool _; rw [hnum0]; omega) f f0
  rw [hp]
  by_cases e1:f = (fAa.get k.caps e s).fEa
  ·rw [if_pos e1]
   subst e1
   show Pool.refs k.pool _ - _ = _
   rw [hnum0]; omega
  ·rw [if_neg e1]
   have hz:(fAa.fYa k.caps e s w).countP (fun p=>decide ((fAa.get k.caps p.fCa p.fDa).fEa = f)) = 0:=by
    rw [List.countP_eq_zero]
    intro p hp
    rw [goers_frame F h hn hp]
    simp; exact fun h=>e1 h.symm
   rw [hz] at hcnt
   show Pool.refs k.pool f = _
   rw [F.num f f0 f1]; omega
 ·simp only at h2 ⊢
  rw [hcaps]
  have hq':q (gone { k with caps:=fAa.fVa k.caps (fAa.fYa k.caps e s w) } (fAa.get k.caps e s).fEa (fAa.fYa k.caps e s w)) a pg = _:=hq a pg
  rw [hq'] at h2
  split at h2
  ·exact absurd rfl h2
  ·rename_i hc
   exact keep a pg h1 (fun hm=>hc ⟨h1,hm⟩)
theorem mv_tabs {k k':PK} (F:Fine k) (ok':PK.Ok k') (hs:k'.s = k.s) (hc:k'.caps = k.caps) (hp:k'.pool = k.pool) (h:∀ a pg,(q k' a pg).fBa ≠ 0->fAa.has k.caps a (q k' a pg).fDa = true/\(fAa.get k.caps a (q k' a pg).fDa).fEa = (q k' a pg).fEa/\aP (q k' a pg).fBa (fAa.get k.caps a (q k' a pg).fDa).fBa = true):Mv k k' :=
 ⟨⟨ok',fun a pg hne=>by rw [hc]; exact h a pg hne,fun f f0 f1=>by rw [hc,hp]; exact F.num f f0 (by rw [← hs]; exact f1)⟩,hs,fun a pg _ _=>by rw [hc]; exact fAa.Keep.refl _ _ _⟩
theorem mv_maps {k:PK} (F:Fine k) {e pg s r:Int} (he:off k e = false) (h:fAa.has k.caps e s = true):Mv k (maps k e pg s r).2/\Mono k (maps k e pg s r).2:=by
 have okm:=ok_maps F.ok e pg s r
 unfold maps at okm ⊢
 split
 ·exact ⟨.refl F,.refl k⟩
 ·rename_i h1
  rw [if_neg h1] at okm
  split
  ·exact ⟨.refl F,.refl k⟩
  ·rename_i h2
   rw [if_neg h2] at okm
   split
   ·exact ⟨.refl F,.refl k⟩
   ·rename_i h3
    rw [if_neg h3] at okm
    have hc:(fAa.get k.caps e s).fBa ≠ 0:=((pY _ _ _).1 (by simpa using h1)).2
    rw [at_of h hc] at okm h3 ⊢
    have hl:=(tab_in F.ok he).2
    have hg0:(Table.get (tab k e) pg).2 = false:=by simpa using h2
    have key:∀ a p,q { k with tabs:=k.tabs.set e.toNat (Table.insert (tab k e) pg ⟨(fAa.get k.caps e s).fEa,s,r⟩).2 } a p = q k a p\/((a = e/\p = pg)/\q { k with tabs:=k.tabs.set e.toNat (Table.insert (tab k e) pg ⟨(fAa.get k.caps e s).fEa,s,r⟩).2 } a p = ⟨(fAa.get k.caps e s).fEa,s,r⟩):=by
     intro a p
     rw [q_tabs F.ok he]
     by_cases ha:a = e
     ·subst ha
      rw [if_pos rfl]
      by_cases hz:(Table.insert (tab k a) pg ⟨(fAa.get k.caps a s).fEa,s,r⟩).1 = 0
      ·rw [Table.get_insert hl _ _ hz]
       by_cases hp:p = pg
       ·subst hp
        rw [if_pos rfl]
        exact .inr ⟨⟨rfl,rfl⟩,rfl⟩
       ·rw [if_neg hp,vu he]; exact .inl rfl
      ·rw [Table.insert_same _ _ hz,vu he]; exact .inl rfl
     ·rw [if_neg ha]; exact .inl rfl
    refine ⟨mv_tabs F okm rfl rfl rfl fun a p hne=>?_,fun a p hne=>?_⟩
    ·simp only at hne ⊢
     rcases key a p with e1 | ⟨⟨rfl,rfl⟩,e1⟩
     ·rw [e1] at hne ⊢; exact F.by_ a p hne
     ·rw [e1]
      exact ⟨h,rfl,by simpa using h3⟩
    ·simp only
     rcases key a p with e1 | ⟨⟨rfl,rfl⟩,e1⟩
     ·exact e1
     ·exfalso
      rw [vu he] at hne
      rw [Table.get_snd] at hg0
      exact hne (by simpa using hg0)
theorem remove_q {k:PK} (ok:PK.Ok k) {e pg:Int} (he:off k e = false) (a p:Int):q (remove k e pg).2 a p = if e = a/\pg = p then dn else q k a p:=by
 unfold remove
 show q { k with tabs:=k.tabs.set e.toNat (Table.remove (tab k e) pg).2 } a p = _
 rw [q_tabs ok he]
 by_cases ha:a = e
 ·subst ha
  rw [if_pos rfl,Table.get_remove (tab_in ok he).2]
  by_cases hp:p = pg
  ·subst hp; rw [if_pos rfl,if_pos ⟨rfl,rfl⟩]
  ·rw [if_neg hp,if_neg (fun h=>hp h.2.symm),vu he]
 ·rw [if_neg ha,if_neg (fun h=>ha h.1.symm)]
theorem mv_remove {k:PK} (F:Fine k) {e pg:Int} (he:off k e = false):Mv k (remove k e pg).2:=by
 refine mv_tabs F (ok_remove F.ok e pg) rfl rfl rfl fun a p hne=>?_
 rw [remove_q F.ok he] at hne ⊢
 split at hne
 ·exact absurd rfl hne
 ·rename_i hc; rw [if_neg hc]; exact F.by_ a p hne
def mayP (k:PK) (e pg r:Int):Prop:=(q k e pg).fBa ≠ 0/\aP r (fAa.get k.caps e (q k e pg).fDa).fBa = true
instance (k:PK) (e pg r:Int):Decidable (mayP k e pg r):=by unfold mayP; infer_instance
theorem protect_q {k:PK} (F:Fine k) {e pg r:Int} (he:off k e = false) (a p:Int):q (protect k e pg r).2 a p = if (e = a/\pg = p)/\mayP k e pg r then { q k a p with fBa:=r } else q k a p:=by
 unfold protect
 by_cases h1:(Table.get (tab k e) pg).2 = false
 ·rw [if_pos h1,if_neg]
  rintro ⟨_,h2,_⟩
  rw [vu he] at h2
  rw [Table.get_snd] at h1
  exact h2 (by simpa using h1)
 ·rw [if_neg h1]
  have h1':(Table.get (tab k e) pg).2 = true:=by simpa using h1
  have hq:(q k e pg).fBa ≠ 0:=by rw [vu he]; rw [Table.get_snd] at h1'; simpa using h1'
  have hb:=F.by_ e pg hq
  rw [vu he] at hb
  have hat:=at_of hb.1 (by have:=(dr hb.2.2).2; omega)
  rw [hat]
  by_cases h2:aP r (fAa.get k.caps e (Table.get (tab k e) pg).1.fDa).fBa = false
  ·rw [if_pos h2,if_neg]
   rintro ⟨_,_,h3⟩
   rw [vu he,h2] at h3; cases h3
  ·rw [if_neg h2]
   have h2':aP r (fAa.get k.caps e (Table.get (tab k e) pg).1.fDa).fBa = true:=by simpa using h2
   show q { k with tabs:=k.tabs.set e.toNat (Table.protect (tab k e) pg r).2 } a p = _
   have hm:mayP k e pg r:=⟨hq,by rw [vu he]; exact h2'⟩
   have hr:ci r = true:=by have:=(dr h2').1; exact vH.2 this
   rw [q_tabs F.ok he]
   by_cases ha:a = e
   ·subst ha
    rw [if_pos rfl,Table.get_protect (tab_in F.ok he).2 _ _ _ h1' hr]
    by_cases hp:p = pg
    ·subst hp; rw [if_pos rfl,if_pos ⟨⟨rfl,rfl⟩,hm⟩,vu he]
    ·rw [if_neg hp,if_neg (fun h=>hp h.1.2.symm),vu he]
   ·rw [if_neg ha,if_neg (fun h=>ha h.1.1.symm)]
theorem mv_protect {k:PK} (F:Fine k) {e pg r:Int} (he:off k e = false):Mv k (protect k e pg r).2:=by
 have hcp:(protect k e pg r).2.caps = k.caps/\(protect k e pg r).2.s = k.s/\(protect k e pg r).2.pool = k.pool:=by
  unfold protect
  split
  ·exact ⟨rfl,rfl,rfl⟩
  ·split <;> exact ⟨rfl,rfl,rfl⟩
 refine mv_tabs F (ok_protect F.ok e pg r) hcp.2.1 hcp.1 hcp.2.2 fun a p hne=>?_
 rw [protect_q F he] at hne ⊢
 split at hne
 ·rename_i hc
  obtain ⟨⟨rfl,rfl⟩,h1,h2⟩:=hc
  rw [if_pos ⟨⟨rfl,rfl⟩,h1,h2⟩]
  have hb:=F.by_ e pg h1
  exact ⟨hb.1,hb.2.1,h2⟩
 ·rename_i hc; rw [if_neg hc]; exact F.by_ a p hne
theorem mv_touch {k:PK} (F:Fine k) (f:Int) (c:dp):Mv k (touch k f c).2/\Mono k (touch k f c).2:=by
 have h:=touch_same k f c
 have qs:=q_same h.2.1 h.2.2.2
 exact ⟨⟨fine_touch F f c,h.2.2.2,fun a pg _ _=>by rw [h.1]; exact fAa.Keep.refl _ _ _⟩,fun a pg _=>qs a pg⟩
theorem mv_user {k:PK} (F:Fine k) (e:Int) (c:dp):Mv k (user k e c).2/\Mono k (user k e c).2:=by
 unfold user
 split
 ·exact ⟨.refl F,.refl k⟩
 ·exact mv_touch F _ _
end PK
end
section
open Go Mb
def Tk (c:dp):Prop:=c.e0 = 4\/c.e0 = 5\/c.e0 = 7\/c.e0 = 8
instance (c:dp):Decidable (Tk c):=by unfold Tk; infer_instance
namespace PK
def gz (k:PK) (e:Int) (c:dp) (a s:Int):Bool :=
 if c.e0 = 5/\a = e/\s = c.e1 then true else if fAa.has k.caps a s = true then fAa.under k.caps (fAa.get k.caps a s) ⟨e,c.e1⟩ else false
def aft (k:PK) (e:Int) (c:dp) (a pg:Int):Pte :=
 if c.e0 = 7 then (if e = a/\c.e1 = pg then dn else q k a pg)
 else if c.e0 = 8 then (if (e = a/\c.e1 = pg)/\mayP k e pg c.e2 then { q k a pg with fBa:=c.e2 } else q k a pg)
 else if (q k a pg).fBa ≠ 0/\gz k e c a (q k a pg).fDa = true then dn else q k a pg
theorem envs_of {k:PK} (ok:PK.Ok k):1 <= k.s.fJa/\k.s.fJa <= 4:=by have:=gb.1 ok.sz; omega
theorem do_bad {k:PK} {e:Int} {c:dp} (h:off k e = true\/Word.check c k.s.fJa ≠ 0):(do_ k e c).2 = k/\(do_ k e c).1.2 = true/\(do_ k e c).1.1 = ⟨if off k e = true then 10 else Word.check c k.s.fJa,0⟩:=by
 unfold do_
 by_cases h1:off k e = true
 ·rw [if_pos h1,if_pos h1]; exact ⟨rfl,rfl,rfl⟩
 ·rw [if_neg h1,if_neg h1,if_pos (h.resolve_left h1)]; exact ⟨rfl,rfl,rfl⟩
theorem do_good {k:PK} {e:Int} {c:dp} (h1:off k e = false) (h2:Word.check c k.s.fJa = 0):do_ k e c = does k e c:=by
 unfold do_; rw [if_neg (by rw [h1]; simp),if_neg (by rw [h2]; simp)]
theorem w0 {n:Int} {c:dp} (w:Well n c):i64.wrap c.e0 = c.e0:=bm (by have:=w.kind; omega) (by have:=w.kind; omega)
theorem gz_goers {k:PK} (F:Fine k) {e:Int} {c:dp} (hc:c.e0 = 4\/c.e0 = 5) (h:fAa.has k.caps e c.e1 = true) (hn:(fAa.get k.caps e c.e1).fBa ≠ 0) {a s:Int} (ha:fAa.has k.caps a s = true) (hr:(fAa.get k.caps a s).fBa ≠ 0) :
  gz k e c a s = true↔(⟨a,s⟩:bZ) ∈ fAa.fYa k.caps e c.e1 (decide (c.e0 = 5)):=by
 rw [fAa.mem_goers F.ok.tree h hn]
 unfold gz
 rw [if_pos ha]
 by_cases h5:c.e0 = 5/\a = e/\s = c.e1
 ·rw [if_pos h5]
  obtain ⟨h51,rfl,rfl⟩:=h5
  simp [h51,ha,hr]
 ·rw [if_neg h5]
  constructor
  ·exact fun hu=>⟨ha,hr,.inr hu⟩
  ·rintro ⟨_,_,⟨h1,h2⟩ | h1⟩
   ·exact absurd ⟨of_decide_eq_true h1,congrArg aH.fCa h2,congrArg aH.fDa h2⟩ h5
   ·exact h1
theorem gz_empty {k:PK} (F:Fine k) {e:Int} {c:dp} (hn:(fAa.get k.caps e c.e1).fBa = 0) {a s:Int} (ha:fAa.has k.caps a s = true) (hr:(fAa.get k.caps a s).fBa ≠ 0):gz k e c a s = false:=by
 unfold gz
 rw [if_neg,if_pos ha]
 ·exact fAa.under_empty F.ok.tree (p:=⟨e,c.e1⟩) hn _ a s (le_refl _) ha
 ·rintro ⟨_,rfl,rfl⟩
  exact hr hn
theorem does_revoke {k:PK} {e:Int} {c:dp} (w:Well k.s.fJa c) (cw:Cw c) (hc:c.e0 = 4\/c.e0 = 5):does k e c = (((revoke k e c.e1 (decide (c.e0 = 5))).1,true),(revoke k e c.e1 (decide (c.e0 = 5))).2):=by
 have h1:i64.wrap c.e1 = c.e1:=kwr cw.c1 (by have:=w.w1 (by omega); omega)
 unfold does
 rw [w0 w,h1]
 rcases hc with h | h <;> simp [h]
theorem do_q {k:PK} (F:Fine k) {e:Int} {c:dp} (cw:Cw c) (he:off k e = false) (hk:Word.check c k.s.fJa = 0) (ht:Tk c) (a pg:Int):q (do_ k e c).2 a pg = aft k e c a pg:=by
 have w:=uL (envs_of F.ok).1 (envs_of F.ok).2 hk
 have h1:i64.wrap c.e1 = c.e1:=kwr cw.c1 (by have:=w.w1 (by unfold Tk at ht; omega); omega)
 rw [do_good he hk]
 have h45:c.e0 = 4\/c.e0 = 5->q (does k e c).2 a pg = aft k e c a pg:=by
  intro h
  rw [does_revoke w cw h]
  unfold aft
  rw [if_neg (by omega),if_neg (by omega)]
  have hh:fAa.has k.caps e c.e1 = true:=(has_iff F.ok).2 ⟨he,cw.c1,by have:=w.w1 (by omega); omega⟩
  by_cases hn:(fAa.get k.caps e c.e1).fBa = 0
  ·rw [revoke_no hh hn,if_neg]
   rintro ⟨a1,a2⟩
   have hb:=F.by_ a pg a1
   rw [gz_empty F hn hb.1 (by have:=(dr hb.2.2).2; omega)] at a2
   cases a2
  ·show q (revoke k e c.e1 _).2 a pg = _
   rw [revoke_q F hh hn]
   by_cases hz:(q k a pg).fBa ≠ 0
   ·have hb:=F.by_ a pg hz
    have:=gz_goers F h hh hn hb.1 (by have:=(dr hb.2.2).2; omega)
    by_cases hg:gz k e c a (q k a pg).fDa = true
    ·rw [if_pos ⟨hz,this.1 hg⟩,if_pos ⟨hz,hg⟩]
    ·rw [if_neg (fun x=>hg (this.2 x.2)),if_neg (fun x=>hg x.2)]
   ·rw [if_neg (fun x=>hz x.1),if_neg (fun x=>hz x.1)]
 rcases ht with h | h | h | h
 ·exact h45 (.inl h)
 ·exact h45 (.inr h)
 ·unfold aft
  rw [if_pos h]
  have:does k e c = errs (remove k e c.e1):=by unfold does; rw [w0 w,h1]; simp [h]
  rw [this]
  exact remove_q F.ok he a pg
 ·unfold aft
  rw [if_neg (by omega),if_pos h]
  have h2:i64.wrap c.e2 = c.e2:=kwr cw.c2 (by have:=w.w5 h; omega)
  have:does k e c = errs (protect k e c.e1 c.e2):=by unfold does; rw [w0 w,h1,h2]; simp [h]
  rw [this]
  have hp:=protect_q F he (pg:=c.e1) (r:=c.e2) a pg
  show q (protect k e c.e1 c.e2).2 a pg = _
  rw [hp]
  by_cases hc:e = a/\c.e1 = pg
  ·obtain ⟨rfl,rfl⟩:=hc; rfl
  ·rw [if_neg (fun x=>hc x.1),if_neg (fun x=>hc x.1)]
theorem do_mv {k:PK} (F:Fine k) {e:Int} {c:dp} (cw:Cw c):Mv k (do_ k e c).2/\(¬ Tk c->Mono k (do_ k e c).2):=by
 by_cases hb:off k e = true\/Word.check c k.s.fJa ≠ 0
 ·rw [(do_bad hb).1]; exact ⟨.refl F,fun _=>.refl k⟩
 ·simp only [not_or,Bool.not_eq_true,Decidable.not_not] at hb
  obtain ⟨he,hk⟩:=hb
  have w:=uL (envs_of F.ok).1 (envs_of F.ok).2 hk
  rw [do_good he hk]
  have hs1:c.e0 ≠ 10->i64.wrap c.e1 = c.e1/\c.e1 < 8:=fun h=>⟨kwr cw.c1 (by have:=w.w1 h; omega),w.w1 h⟩
  have hh1:c.e0 ≠ 10->fAa.has k.caps e c.e1 = true:=fun h=>(has_iff F.ok).2 ⟨he,cw.c1,(hs1 h).2⟩
  have c1:c.e0 = 1\/c.e0 = 2\/c.e0 = 3\/c.e0 = 4\/c.e0 = 5\/c.e0 = 6\/c.e0 = 7\/c.e0 = 8\/c.e0 = 9\/c.e0 = 10\/20 <= c.e0:=by have:=w.kind; omega
  rcases c1 with h | h | h | h | h | h | h | h | h | h | h
  ·have e1:does k e c = errs (alloc k e c.e1):=by unfold does; rw [w0 w,(hs1 (by omega)).1]; simp [h]
   rw [e1]
   have:=mv_alloc F (hh1 (by omega))
   exact ⟨this.1,fun _=>this.2⟩
  ·have h2:=w.w2 (.inl h)
   have h4:=w.w4 (.inl h)
   have e1:does k e c = errs (derive k e c.e1 e c.e2 c.e3):=by unfold does; rw [w0 w,(hs1 (by omega)).1,kwr cw.c2 (by omega),kwr cw.c3 (by omega)]; simp [h]
   rw [e1]
   have:=mv_derive F (r:=c.e3) (hh1 (by omega)) ((has_iff F.ok).2 ⟨he,cw.c2,by omega⟩)
   exact ⟨this.1,fun _=>this.2⟩
  ·have h3:=w.w3 h
   have e1:does k e c = errs (derive k e c.e1 c.e2 c.e3 c.e4):=by
    unfold does; rw [w0 w,(hs1 (by omega)).1,kwr cw.c2 (by have:=(envs_of F.ok).2; omega),kwr cw.c3 (by omega),kwr cw.c4 (by omega)]; simp [h]
   rw [e1]
   have:=mv_derive F (r:=c.e4) (hh1 (by omega)) ((has_iff F.ok (e:=c.e2) (s:=c.e3)).2 ⟨off_iff.2 ⟨cw.c2,h3.1⟩,cw.c3,by omega⟩)
   exact ⟨this.1,fun _=>this.2⟩
  ·rw [does_revoke w cw (.inl h)]
   exact ⟨mv_revoke F (hh1 (by omega)),fun hn=>absurd (.inl h) hn⟩
  ·rw [does_revoke w cw (.inr h)]
   exact ⟨mv_revoke F (hh1 (by omega)),fun hn=>absurd (.inr (.inl h)) hn⟩
  ·have h2:=w.w2 (.inr h)
   have h4:=w.w4 (.inr h)
   have e1:does k e c = errs (maps k e c.e1 c.e2 c.e3):=by unfold does; rw [w0 w,(hs1 (by omega)).1,kwr cw.c2 (by omega),kwr cw.c3 (by omega)]; simp [h]
   rw [e1]
   have:=mv_maps F (pg:=c.e1) (s:=c.e2) (r:=c.e3) he ((has_iff F.ok).2 ⟨he,cw.c2,by omega⟩)
   exact ⟨this.1,fun _=>this.2⟩
  ·have e1:does k e c = errs (remove k e c.e1):=by unfold does; rw [w0 w,(hs1 (by omega)).1]; simp [h]
   rw [e1]
   exact ⟨mv_remove F he,fun hn=>absurd (.inr (.inr (.inl h))) hn⟩
  ·have h5:=w.w5 h
   have e1:does k e c = errs (protect k e c.e1 c.e2):=by unfold does; rw [w0 w,(hs1 (by omega)).1,kwr cw.c2 (by omega)]; simp [h]
   rw [e1]
   exact ⟨mv_protect F he,fun hn=>absurd (.inr (.inr (.inr h))) hn⟩
  ·have e1:does k e c = (sleep k e c,k):=by unfold does; rw [w0 w]; simp [h]
   rw [e1]; exact ⟨.refl F,fun _=>.refl k⟩
  ·have e1:does k e c = ((⟨0,0⟩,true),k):=by unfold does; rw [w0 w]; simp [h]
   rw [e1]; exact ⟨.refl F,fun _=>.refl k⟩
  ·have e1:does k e c = (((user k e c).1,true),(user k e c).2):=by
    unfold does; rw [w0 w]
    rw [if_neg (by omega),if_neg (by omega),if_neg (by omega),if_neg (by omega),if_neg (by omega),if_neg (by omega),if_neg (by omega),if_neg (by omega),if_neg (by omega),if_neg (by omega)]
   rw [e1]
   have:=mv_user F e c
   exact ⟨this.1,fun _=>this.2⟩
end PK
end
section
open Go Mb
theorem mid_eq (lo hi:Nat) (h:lo + hi < 2 ^ 62):i64.wrap (Int.fdiv (u64.wrap (i64.wrap ((lo:Int) + (hi:Int)))) (2 ^ (min (Int.toNat 1) (IntKind.bits .u64)))) = (((lo + hi) / 2:Nat):Int):=by
 have e0:i64.wrap ((lo:Int) + (hi:Int)) = ((lo + hi:Nat):Int):=by rw [bm (by omega) (by omega)]; rfl
 have e1:u64.wrap ((lo + hi:Nat):Int) = ((lo + hi:Nat):Int):=by
  simp only [IntKind.wrap]; first | omega | (simp [IntKind.bits,IntKind.signed]; omega)
 have e2:(2:Int) ^ (min (Int.toNat 1) (IntKind.bits .u64)) = 2:=by decide
 rw [e0,e1,e2,Int.fdiv_eq_ediv_of_nonneg _ (by decide)]
 have e3:((lo + hi:Nat):Int) / 2 = (((lo + hi) / 2:Nat):Int):=by omega
 rw [e3,bm (by omega) (by omega)]
structure PlaceIn (xs:List Int) (a:Int) (i:Nat):Prop where
 le:i <= xs.length
 lo:∀ k (h:k < xs.length),k < i->xs[k] < a
 hi:∀ k (h:k < xs.length),i <= k->a <= xs[k]
theorem less_eq (x y:Int):iD x y = decide (x < y):=by
 unfold iD
 simp [dC]
theorem sp_BinarySearch (s:Sl) (xs:List Int) (a:Int) (hb:xs.length < 2 ^ 60) (hs:∀ i j (hi:i < xs.length) (hj:j < xs.length),i < j->xs[i] <= xs[j]) :
  Sp prog eZ [sv s,.int .u64 a] bI [vU s xs] (fun r=>pa_ (∃ i,PlaceIn xs a i/\r = ((i:Int),decide (xs[i]? = some a))) [vU s xs]):=by
 intro h s0
 have hl:=(cc (j:=0) s0 rfl).1
 refine mE _ _ ?_
 unfold gU
 refine Lp.intro (fun (z:Int × Int) h=>∃ lo hi:Nat,z = ((lo:Int),(hi:Int))/\lo <= hi/\hi <= xs.length/\(∀ k (h:k < xs.length),k < lo->xs[k] < a)/\(∀ k (h:k < xs.length),hi <= k->a <= xs[k])/\aB [vU s xs] h) (fun (z:Int × Int) _=>(z.2 - z.1).toNat)
  ⟨0,xs.length,by rw [hl]; rfl,Nat.zero_le _,le_refl _,fun k h h'=>by omega,fun k h h'=>by omega,s0⟩ ?_
 rintro z h ⟨lo,hi,rfl,h1,h2,h3,h4,s1⟩
 unfold eQ
 refine aY (fun k=>?_) (fun k=>?_)
 ·have hlt:lo < hi:=by have:=of_decide_eq_true k; simp at this; exact this
  have hm:=mid_eq lo hi (by omega)
  simp only [hm]
  have hml:(lo + hi) / 2 < xs.length:=by omega
  refine cZ s1 (j:=0) rfl (by omega) (by omega) fun q hq=>?_
  refine dz (j:=0) (i:=(lo + hi) / 2) (k:=0) xs[(lo + hi) / 2] (ct _) s1 rfl hq (by rw [toNat_natCast]; rfl) (aE hml) (by simp) ?_
  rw [less_eq]
  refine aY (fun k2=>?_) (fun k2=>?_)
  ·have k2':xs[(lo + hi) / 2] < a:=by simpa using k2
   have hw:i64.wrap ((((lo + hi) / 2:Nat):Int) + 1) = (((lo + hi) / 2 + 1:Nat):Int):=by rw [bm (by omega) (by omega)]; rfl
   rw [hw]
   refine ⟨⟨(lo + hi) / 2 + 1,hi,rfl,by omega,h2,fun k hk hk'=>?_,h4,s1⟩,?_⟩
   ·by_cases e:k = (lo + hi) / 2
    ·subst e; exact k2'
    ·have:=hs k _ hk hml (by omega); omega
   ·show ((hi:Int) - (((lo + hi) / 2 + 1:Nat):Int)).toNat < ((hi:Int) - (lo:Int)).toNat
    omega
  ·have k2':¬ xs[(lo + hi) / 2] < a:=by simpa using k2
   refine ⟨⟨lo,(lo + hi) / 2,rfl,by omega,by omega,h3,fun k hk hk'=>?_,s1⟩,?_⟩
   ·by_cases e:k = (lo + hi) / 2
    ·subst e; omega
    ·have:=hs _ k hml hk (by omega); omega
   ·show ((((lo + hi) / 2:Nat):Int) - (lo:Int)).toNat < ((hi:Int) - (lo:Int)).toNat
    omega
 ·have hlt:lo = hi:=by have:=of_decide_eq_false k; simp at this; omega
  subst hlt
  have hp:PlaceIn xs a lo:=⟨h2,h3,h4⟩
  refine aY (fun k2=>?_) (fun k2=>?_)
  ·have hlt:lo < xs.length:=by rw [hl] at k2; simpa using k2
   refine cZ s1 (j:=0) rfl (by omega) (by show (lo:Int) < _; omega) fun q hq=>?_
   refine dz (j:=0) (i:=lo) (k:=0) xs[lo] (ct _) s1 rfl hq (by simp) (aE hlt) (by simp) ?_
   refine aY (fun k3=>?_) (fun k3=>?_)
   ·have k3':¬ xs[lo] = a:=by simpa using k3
    refine dz (j:=0) (i:=lo) (k:=0) xs[lo] (ct _) s1 rfl hq (by simp) (aE hlt) (by simp) ?_
    exact aZ ⟨lo,hp,by simp [dS,hlt,k3']⟩ s1
   ·have k3':xs[lo] = a:=by simpa using k3
    exact aZ ⟨lo,hp,by simp [hlt,k3']⟩ s1
  ·have hlt:¬ lo < xs.length:=by rw [hl] at k2; simpa using k2
   exact aZ ⟨lo,hp,by simp [List.getElem?_eq_none (Nat.le_of_not_lt hlt)]⟩ s1
def sub (m:Nat) (s:Sl) (lo hi:Nat):Sl:=⟨if s.cap = lo then s.a else s.a.map (fun q=>(q.1,q.2 + lo * m)),hi - lo,s.cap - lo,none⟩
theorem pa_map (p:Ptr) (n:Nat):(pa p).map (·.add n) = pa (p.map fun q=>(q.1,q.2 + n)):=by
 cases p with
 | none=>rfl
 | some q=>simp [pa,add_plain]
theorem slice_raw {P:Program} {h:Hp} {S T m bys:Nat} {z:List Value} {s:Sl} {lo hi:Nat} {vlo vhi:Option Value} {R:Sl->Value} {K:Sl->Hp->Prop} (E:El P S T m bys z) (hR:R = sv)
  (hlo:vlo = some (.int .i64 lo)\/vlo = none/\lo = 0) (hhi:vhi = some (.int .i64 hi)\/vhi = none/\hi = s.len) (h1:lo <= hi) (h2:hi <= s.cap) (k:K (sub m s lo hi) h):hpv P (Instr.sliceAt S (sv s) vlo vhi none) R K h:=by
 subst hR
 refine ⟨?_⟩
 obtain ⟨inf,hinf,e1,e2,e3⟩:=E.inf
 unfold Instr.sliceAt
 refine cf (cU E.sl ?_)
 show hp P (Instr.slice S (sv s) _ _ _) _ _
 unfold Instr.slice
 refine cf (cU E.sl ?_)
 simp only [sv]
 refine cf ?_
 unfold Instr.sliceBounds
 have fin:∀ hh:Hp,hh = h->hp P (do let size ← sizeOf T; pure (Value.slice (if s.cap = lo then pa s.a else (pa s.a).map (·.add (lo * size))) (hi - lo) (s.cap - lo))) (fun v h'=>∃ r,v = sv r/\K r h') hh:=by
  rintro _ rfl
  refine cf (oQ hinf ?_)
  rw [e1]
  refine ⟨sub m s lo hi,?_,k⟩
  unfold sub sv
  split
  ·rfl
  ·rw [pa_map]
 rcases hhi with rfl | ⟨rfl,rfl⟩
 ·refine cf (cf (cf ?_))
  unfold Instr.sliceBound
  refine cf (uj ?_)
  refine hp_yes ⟨by omega,by omega⟩ ?_
  rcases hlo with rfl | ⟨rfl,rfl⟩
  ·refine cf (cf (uj ?_))
   refine hp_yes ⟨by omega,by omega⟩ ?_
   exact fin h rfl
  ·exact fin h rfl
 ·refine cf (cf ?_)
  rcases hlo with rfl | ⟨rfl,rfl⟩
  ·refine cf ?_
   unfold Instr.sliceBound
   refine cf (uj ?_)
   refine hp_yes ⟨by omega,by omega⟩ ?_
   exact fin h rfl
  ·exact fin h rfl
end
section
open Go Mb
def sh_mail_Mail_is (a0:Ptr) (a1:Int) (K:Bool->Hp->Prop):Hp->Prop:=br ((!a0.isNone) && (decide (a1 >= 0))) ( nn a0 fun q14=>ld (q14.1,q14.2 + 0) cS fun x16=>K (decide (a1 < (x16.len:Int)))) ( K false)
theorem sim_mail_Mail_is (a0:Ptr) (a1:Int) {K:Bool->Hp->Prop} {h:Hp} (H:sh_mail_Mail_is a0 a1 K h):cl prog mg [(pv a0),(.int .i64 a1)] aC K h:=z_i func168 p p fun _=>O<|U p<|O<|M p<|J (v_pneT underlying105 p)<|M p<|W p p (ay _) (fun g1=>wv<|ai p)<|W p p (ay _) (fun g2=>wv<|jF (aG p g2) p)<|J (bQ p p)<|M p<|W p p (ay _) (fun g3=>wv<|ai p)<|W p p (ay _) (fun g4=>wv<|ai p)<|bU H (fun k6 H7=>bK H7 fun q14 e8 H9=>G (F k6)<|z_p (aK<|aJ (aG p k6)<|ar e8)<|G (F k6)<|z_p (ah mV p)<|G (F k6)<|aW H9 lR p (fun _=>p) p fun x16 H10=>G (F k6)<|z_p (dA p underlying163 p)<|G (F k6)<|z_p (cj (aG p k6) p)<|J (aS p k6 p)<|U p<|aj<|Z ⟨decide (a1 < (x16.len:Int)),p,H10⟩) fun k6 H7=>Y (aT k6)<|Y (aT k6)<|Y (aT k6)<|Y (aT k6)<|Y (aT k6)<|J (au p k6 p)<|U p<|aj<|Z ⟨false,p,H7⟩
def uY (a0:Ptr) (a1:Int) (a2:Int) (a3:Int) (K:Bool->Hp->Prop):Hp->Prop:=cl prog mg [(pv a0),(.int .i64 a1)] aC fun r13=>br (!(!r13)) ( cl prog mg [(pv a0),(.int .i64 a2)] aC fun r18=>br ((!r18) || (a1 == a2)) ( K false) ( nn a0 fun q28=>ld (q28.1,q28.2 + 0) cS fun x30=>ix x30 a2 fun q32=>ld (q32.1,q32.2 + Int.toNat a2 * 1) cS fun x33=>cl prog eZ [(sv x33),(.int .u64 a3)] bI fun r35=>br (!r35.2) ( ld (q28.1,q28.2 + 0) cS fun x48=>ix x48 a2 fun q50=>ld (q50.1,q50.2 + Int.toNat a2 * 1) cS fun x51=>both ( ld (q28.1,q28.2 + 0) cS fun x43=>hpv prog (Instr.buildSlice bf 1 #[(0,(.int .u64 a3))]) ch fun (v54:Sl)=>cl prog dN [(sv x51),(.int .i64 r35.1),(sv v54)] ch fun r55=>ix x43 a2 fun q56=>st (q56.1,q56.2 + Int.toNat a2 * 1) [sv r55]<|K true) ( hpv prog (Instr.buildSlice bf 1 #[(0,(.int .u64 a3))]) ch fun (v54:Sl)=>both ( ld (q28.1,q28.2 + 0) cS fun x43=>cl prog dN [(sv x51),(.int .i64 r35.1),(sv v54)] ch fun r55=>ix x43 a2 fun q56=>st (q56.1,q56.2 + Int.toNat a2 * 1) [sv r55]<|K true) ( cl prog dN [(sv x51),(.int .i64 r35.1),(sv v54)] ch fun r55=>ld (q28.1,q28.2 + 0) cS fun x43=>ix x43 a2 fun q56=>st (q56.1,q56.2 + Int.toNat a2 * 1) [sv r55]<|K true))) ( K true))) ( K false)
theorem sim_mail_Mail_Send (a0:Ptr) (a1:Int) (a2:Int) (a3:Int) {K:Bool->Hp->Prop} {h:Hp} (H:uY a0 a1 a2 a3 K h):cl prog qS [(pv a0),(.int .i64 a1),(.int .i64 a2),(.int .u64 a3)] aC K h:=z_i func120 p p fun _=>O<|U p<|am<|O<|M p<|M p<|aa<|D H en_168 fun r13 _ H1=>J (cy p)<|M p<|W p p (aL _) (fun g2=>wv<|ai p)<|W p p (aL _) (fun g3=>wv<|ai p)<|bU H1 (fun k5 H6=>G (F<|bO k5)<|gw H6 en_168 (aU (aG p k5)<|aU (aG p k5) bX) p fun r18 _ H7=>G (F<|bO k5)<|z_p (cy p)<|J (au p (bO k5) p)<|M p<|W p p (aL _) (fun g8=>wv<|ai p)<|W p p (aL _) (fun g9=>wv<|ai p)<|W p p (aL _) (fun g10=>wv<|bP (aG p g10)<|aG p g10)<|J (dy p p)<|ae<|ax p H7 (fun k11 H12=>O<|U p<|aj<|Z ⟨false,p,H12⟩) fun k11 H12=>ap<|am<|O<|M p<|bK H12 fun q28 e13 H14=>J (aK<|aJ p<|ar e13)<|J (ah mV p)<|aa<|aW H14 lR p (fun _=>p) p fun x30 H15=>M p<|cq H15 fun q32 e16 h17 H18=>J (be mD (aJ p<|aX e16) p h17)<|aa<|aW H18 sc_93 p (fun _=>p) p fun x33 H19=>M p<|aa<|D H19 en_169 fun r35 _ H20=>M p<|J (al p p)<|J (al p p)<|J (av p)<|U p<|O<|M p<|J (cy p)<|ae<|ax p H20 (fun k21 H22=>bn (n:=18) [] ck p .slnil<|V 0 p (ai<|aJ p<|ar e13)<|V 1 p (aK p)<|V 2 p (ah mV p)<|V 4 p (ai p)<|V 5 p (ai<|aJ p<|ar e13)<|V 6 p (aK p)<|V 7 p (ah mV p)<|V 9 p (ai p)<|V 12 p (ai p)<|V 13 p (ai p)<|bA (i:=8) (fun _ _ _ _ hh=>hh) H22 p (by kernel_rfl) lR p (fun _=>p) p fun x48 H23=>dJ H23 fun q50 e24 h25 H26=>V 10 p (be mD (aJ p<|aX e24) p h25)<|bA (i:=11) (fun _ _ _ _ hh=>hh) H26 p (by kernel_rfl) sc_93 p (fun _=>p) p fun x51 H27=>ki H27 fun H28_1 H28_2=>kj (i:=3) (j:=14) (by kernel_rfl) (cQ p p<|aW H28_1 lR p (fun _=>p) p fun x43 H29=>⟨.slnil,I 14 p<|aV H29 (bE (vs:=[(.int .u64 a3)]) p) p fun v54 _ H30=>⟨.slnil,I 15 p<|D H30 en_170 fun r55 _ H31=>⟨.slnil,dJ H31 fun q56 e32 h33 H34=>V 16 p (be mD (aJ p<|aX e32) p h33)<|I 17 p<|di inf_93 p p p p p H34 fun _ H35=>⟨.slnil,aR (by kernel_rfl)<|O<|U p<|aj<|Z ⟨true,p,H35⟩⟩⟩⟩⟩)<|cQ p p<|aV H28_2 (bE (vs:=[(.int .u64 a3)]) p) p fun v54 _ H29=>⟨.slnil,ki H29 fun H30_1 H30_2=>kj (i:=3) (j:=15) (by kernel_rfl) (cQ p p<|aW H30_1 lR p (fun _=>p) p fun x43 H31=>⟨.slnil,I 15 p<|D H31 en_170 fun r55 _ H32=>⟨.slnil,dJ H32 fun q56 e33 h34 H35=>V 16 p (be mD (aJ p<|aX e33) p h34)<|I 17 p<|di inf_93 p p p p p H35 fun _ H36=>⟨.slnil,aR (by kernel_rfl)<|O<|U p<|aj<|Z ⟨true,p,H36⟩⟩⟩⟩)<|cQ p p<|D H30_2 en_170 fun r55 _ H31=>⟨.slnil,bA (i:=3) (fun _ _ _ _ hh=>hh) H31 p (by kernel_rfl) lR p (fun _=>p) p fun x43 H32=>dJ H32 fun q56 e33 h34 H35=>V 16 p (be mD (aJ p<|aX e33) p h34)<|I 17 p<|di inf_93 p p p p p H35 fun _ H36=>⟨.slnil,aR (by kernel_rfl)<|O<|U p<|aj<|Z ⟨true,p,H36⟩⟩⟩⟩) fun k21 H22=>ap<|O<|U p<|aj<|Z ⟨true,p,H22⟩) fun k5 H6=>Y (bL<|bq k5)<|Y (bL<|bq k5)<|J (aS p (bq k5) p)<|M p<|Y p<|Y p<|Y p<|J (aS p p p)<|ae<|kL p p<|O<|U p<|aj<|Z ⟨false,p,H6⟩
def qV (a1:Int) (a2:Int) (K:Int->Hp->Prop) (q12:Nat × Nat) (x14:Sl) (Rec7:(Int × Int)->Hp->Prop) (s6:Int × Int):Hp->Prop:=br (decide (s6.2 < (x14.len:Int))) ( cl prog qS [(.pointer (some ⟨q12.1,q12.2,none⟩)),(.int .i64 a1),(.int .i64 s6.2),(.int .u64 a2)] aC fun r23=>br r23 ( Rec7 ((i64.wrap (s6.1 + 1)),(i64.wrap (s6.2 + 1)))) ( Rec7 (s6.1,(i64.wrap (s6.2 + 1))))) ( K s6.1)
def wQ (a0:Ptr) (a1:Int) (a2:Int) (K:Int->Hp->Prop):Hp->Prop:=br a0.isNone ( K 0) ( nn a0 fun q12=>ld (q12.1,q12.2 + 0) cS fun x14=>Lp (qV a1 a2 K q12 x14) (0,0))
theorem sim_mail_Mail_All (a0:Ptr) (a1:Int) (a2:Int) {K:Int->Hp->Prop} {h:Hp} (H:wQ a0 a1 a2 K h):cl prog nV [(pv a0),(.int .i64 a1),(.int .u64 a2)] eF K h:=z_i func70 p p fun _=>O<|U p<|am<|O<|M p<|J (cA underlying105 p)<|ae<|ax p H (fun k1 H2=>O<|U p<|aj<|Z ⟨0,p,H2⟩) fun k1 H2=>ap<|O<|U p<|am<|O<|M p<|bK H2 fun q12 e3 H4=>J (aK<|aJ p<|ar e3)<|J (ah mV p)<|aa<|aW H4 lR p (fun _=>p) p fun x14 H5=>J (dA p underlying163 p)<|M p<|ae<|aw<|bz (step:=qV a1 a2 K q12 x14) (fun s6=>[(0,(pv a0)),(1,(.int .i64 a1)),(2,(.int .u64 a2)),(7,(.int .i64 s6.1)),(15,(.int .i64 (x14.len:Int))),(16,(.int .i64 s6.2))]) (fun s6=>[]) H5 (.cons p<|.cons p<|.cons p<|.cons p<|.cons p<|.cons p<|.nil _) .slnil fun Rec7 s6 _ H8=>O<|J (cj p p)<|ae<|am<|ax p H8 (fun k9 H10=>ap<|am<|aw<|O<|M p<|U p<|O<|M (aJ p<|ar e3)<|M p<|M p<|M p<|aa<|D H10 en_120 fun r23 _ H11=>ae<|ax p H11 (fun k12 H13=>aq<|M p<|J (bk p p)<|U p<|aq<|J (bk p p)<|M p<|ae<|cF ((i64.wrap (s6.1 + 1)),(i64.wrap (s6.2 + 1))) H13 (.cons p<|.cons p<|.cons p<|.cons p<|.cons p<|.cons p<|.nil _) .slnil) fun k12 H13=>ap<|aq<|J (bk p p)<|M p<|ae<|cF (s6.1,(i64.wrap (s6.2 + 1))) H13 (.cons p<|.cons p<|.cons p<|.cons p<|.cons p<|.cons p<|.nil _) .slnil) fun k9 H10=>bh<|O<|M p<|U p<|aj<|Z ⟨s6.1,p,H10⟩
def tM (a0:Ptr) (a1:Int) (K:Int->Hp->Prop):Hp->Prop:=cl prog mg [(pv a0),(.int .i64 a1)] aC fun r7=>br (!r7) ( K 0) ( nn a0 fun q10=>ld (q10.1,q10.2 + 0) cS fun x12=>ix x12 a1 fun q14=>ld (q14.1,q14.2 + Int.toNat a1 * 1) cS fun x15=>K (x15.len:Int))
theorem sim_mail_Mail_Waits (a0:Ptr) (a1:Int) {K:Int->Hp->Prop} {h:Hp} (H:tM a0 a1 K h):cl prog lF [(pv a0),(.int .i64 a1)] eF K h:=z_i func132 p p fun _=>O<|U p<|am<|O<|M p<|M p<|aa<|D H en_168 fun r7 _ H1=>J (cy p)<|ae<|ax p H1 (fun k2 H3=>O<|U p<|aj<|Z ⟨0,p,H3⟩) fun k2 H3=>ap<|O<|M p<|bK H3 fun q10 e4 H5=>J (aK<|aJ p<|ar e4)<|J (ah mV p)<|aa<|aW H5 lR p (fun _=>p) p fun x12 H6=>M p<|cq H6 fun q14 e7 h8 H9=>J (be mD (aJ p<|aX e7) p h8)<|aa<|aW H9 sc_93 p (fun _=>p) p fun x15 H10=>J (dA p underlying93 p)<|U p<|aj<|Z ⟨(x15.len:Int),p,H10⟩
def uX (a0:Ptr) (a1:Int) (K:(Int × Bool)->Hp->Prop):Hp->Prop:=cl prog lF [(pv a0),(.int .i64 a1)] eF fun r9=>br (r9 == 0) ( K (0,false)) ( nn a0 fun q12=>ld (q12.1,q12.2 + 0) cS fun x14=>ix x14 a1 fun q16=>ld (q16.1,q16.2 + Int.toNat a1 * 1) cS fun x17=>ix x17 0 fun q18=>ld (q18.1,q18.2 + Int.toNat 0 * 1) (cI .u64) fun x19=>ld (q12.1,q12.2 + 0) cS fun x28=>ix x28 a1 fun q30=>ld (q30.1,q30.2 + Int.toNat a1 * 1) cS fun x31=>both ( ld (q12.1,q12.2 + 0) cS fun x23=>hpv prog (Instr.sliceAt bf (sv x31) (some (.int .i64 1)) none none) ch fun (v32:Sl)=>ix x23 a1 fun q33=>st (q33.1,q33.2 + Int.toNat a1 * 1) [sv v32]<|K (x19,true)) ( hpv prog (Instr.sliceAt bf (sv x31) (some (.int .i64 1)) none none) ch fun (v32:Sl)=>ld (q12.1,q12.2 + 0) cS fun x23=>ix x23 a1 fun q33=>st (q33.1,q33.2 + Int.toNat a1 * 1) [sv v32]<|K (x19,true)))
theorem sim_mail_Mail_Take (a0:Ptr) (a1:Int) {K:(Int × Bool)->Hp->Prop} {h:Hp} (H:uX a0 a1 K h):cl prog mL [(pv a0),(.int .i64 a1)] bN K h:=z_i func97 p p fun _=>O<|J (av p)<|U p<|am<|O<|M p<|M p<|aa<|D H en_132 fun r9 _ H1=>J (bP p p)<|ae<|ax p H1 (fun k2 H3=>O<|J (av p)<|U p<|aj<|bD (bW p (cg p)<|cg p) ⟨(0,false),p,H3⟩) fun k2 H3=>ap<|O<|M p<|bK H3 fun q12 e4 H5=>J (aK<|aJ p<|ar e4)<|J (ah mV p)<|aa<|aW H5 lR p (fun _=>p) p fun x14 H6=>M p<|cq H6 fun q16 e7 h8 H9=>J (be mD (aJ p<|aX e7) p h8)<|aa<|aW H9 sc_93 p (fun _=>p) p fun x17 H10=>cq H10 fun q18 e11 h12 H13=>J (be xI (aJ p<|aX e11) p h12)<|aa<|aW H13 cG p (fun _=>p) p fun x19 H14=>U p<|am<|bn (n:=15) [] ck p .slnil<|V 0 p (ai<|aJ p<|ar e4)<|V 1 p (aK p)<|V 2 p (ah mV p)<|V 4 p (ai p)<|V 5 p (ai<|aJ p<|ar e4)<|V 6 p (aK p)<|V 7 p (ah mV p)<|V 9 p (ai p)<|bA (i:=8) (fun _ _ _ _ hh=>hh) H14 p (by kernel_rfl) lR p (fun _=>p) p fun x28 H15=>dJ H15 fun q30 e16 h17 H18=>V 10 p (be mD (aJ p<|aX e16) p h17)<|bA (i:=11) (fun _ _ _ _ hh=>hh) H18 p (by kernel_rfl) sc_93 p (fun _=>p) p fun x31 H19=>ki H19 fun H20_1 H20_2=>kj (i:=3) (j:=12) (by kernel_rfl) (cQ p p<|aW H20_1 lR p (fun _=>p) p fun x23 H21=>⟨.slnil,I 12 p<|aV H21 (ff p p p p p) p fun v32 _ H22=>⟨.slnil,dJ H22 fun q33 e23 h24 H25=>V 13 p (be mD (aJ p<|aX e23) p h24)<|I 14 p<|di inf_93 p p p p p H25 fun _ H26=>⟨.slnil,aR (by kernel_rfl)<|O<|M p<|J (av p)<|U p<|aj<|bD (bW p (cg p)<|cg p) ⟨(x19,true),p,H26⟩⟩⟩⟩)<|cQ p p<|aV H20_2 (ff p p p p p) p fun v32 _ H21=>⟨.slnil,bA (i:=3) (fun _ _ _ _ hh=>hh) H21 p (by kernel_rfl) lR p (fun _=>p) p fun x23 H22=>dJ H22 fun q33 e23 h24 H25=>V 13 p (be mD (aJ p<|aX e23) p h24)<|I 14 p<|di inf_93 p p p p p H25 fun _ H26=>⟨.slnil,aR (by kernel_rfl)<|O<|M p<|J (av p)<|U p<|aj<|bD (bW p (cg p)<|cg p) ⟨(x19,true),p,H26⟩⟩⟩
def sh_mail_New (a0:Int) (K:Ptr->Hp->Prop):Hp->Prop:=br ((decide (a0 < 1)) || (decide (a0 > 8))) ( K none) ( hpv prog (Instr.makeSlice qI (.int .i64 a0) (.int .i64 a0)) R_SSuint64 fun (v10:Sl)=>nw lO (oW.C (⟨v10⟩:oW)) fun b12=>K (some (b12,0)))
theorem sim_mail_New (a0:Int) {K:Ptr->Hp->Prop} {h:Hp} (H:sh_mail_New a0 K h):cl prog ue [(.int .i64 a0)] qa K h:=z_i func57 p p fun _=>O<|U p<|am<|O<|M p<|J (cj p p)<|M p<|W p p (aL _) (fun g1=>wv<|ai p)<|W p p (aL _) (fun g2=>wv<|oZ (aG p g2) p)<|J (dy p p)<|ae<|ax p H (fun k3 H4=>O<|U p<|aj<|Z ⟨none,p,H4⟩) fun k3 H4=>ap<|O<|M p<|aa<|aV H4 (kr p p) p fun v10 _ H5=>J (bd p<|build_165_0 v10)<|aa<|iw p p p H5 fun b12 _ H6=>U p<|aj<|Z ⟨some (b12,0),p,H6⟩
end
section
open Go Mb
theorem vY (s y:Sl) (xs:List Int) (a:Int) (hl:xs.length < 2 ^ 40) :
  Sp prog dN [sv s,.int .i64 xs.length,sv y] ch [vU s xs,vU y [a]] (fun r=>vU r (xs++[a])):=by
 intro h s0
 have hs:=(cc (j:=0) s0 rfl).1
 have hy:=(cc (j:=1) s0 rfl).1
 have hcap:s.len <= s.cap:=star_fact (i:=0) rfl (fun _ hv=>hv.2.1) s0
 refine qe _ _ _ ?_
 unfold jV
 refine slice_raw (lo:=xs.length) (hi:=s.len) gm rfl (.inl rfl) (.inr ⟨rfl,rfl⟩) (by omega) hcap ?_
 refine dO (by rw [hy]; rfl) ?_
 refine eD (by rw [hs]; simp) ?_
 refine uB (τ:=Int) (i:=0) (j:=1) (enc:=cI .u64) (ys:=[a]) gm gm.sl (ct _) (oneI _) s0 rfl rfl (by omega) (by simp; omega) (by simp; omega) fun v h2 s2=>?_
 obtain ⟨h3,h4,d,rfl,a2,_⟩:=s2
 obtain ⟨e1,e2,e3⟩:=a2
 refine ⟨e1,e2,?_⟩
 rcases e3 with e3 | ⟨b,pre,rest,U,fr,f1,f2,fg,f3⟩
 ·exact .inl e3
 ·exact .inr ⟨b,pre,rest,U,fr,f1,f2,fg,un_left f3⟩
def jJ (x:Ptr) (bs:List (List Int)):As:=fun h=>∃ z:Nat × Sl × List Sl,(x = some (z.1,0)/\z.2.2.length = bs.length/\bs.length <= 8)/\aB [blk z.1 lO [sv z.2.1],vec bf 1 cS z.2.1 z.2.2,all vU z.2.2 bs] h
theorem mail_op {x:Ptr} {bs:List (List Int)} {l:List As} {h:Hp} (s0:aB (jJ x bs::l) h):∃ b s ss,x = some (b,0)/\ss.length = bs.length/\bs.length <= 8/\s.len = bs.length/\aB (blk b lO [sv s]::vec bf 1 cS s ss::all vU ss bs::l) h:=by
 obtain ⟨⟨b,s,ss⟩,⟨hx,h1,h2⟩,st⟩:=op_ s0
 exact ⟨b,s,ss,hx,h1,h2,(cc (j:=1) st rfl).1.trans h1,st⟩
theorem mail_cl {b:Nat} {s:Sl} {ss:List Sl} {bs:List (List Int)} {l:List As} {h:Hp} (h1:ss.length = bs.length) (h2:bs.length <= 8) (st:aB (blk b lO [sv s]::vec bf 1 cS s ss::all vU ss bs::l) h):aB (jJ (some (b,0)) bs::l) h :=
 cl_ (m:=fun z:Nat × Sl × List Sl=>[blk z.1 lO [sv z.2.1],vec bf 1 cS z.2.1 z.2.2,all vU z.2.2 bs]) (b,s,ss) ⟨rfl,h1,h2⟩ st
namespace Mail
abbrev S:=List (List Int)
def has (bs:S) (c:Int):Bool:=decide (0 <= c/\c < bs.length)
def box (bs:S) (c:Int):List Int:=bs.getD c.toNat []
def send (bs:S) (f t e:Int):Bool × S:=if has bs f = true/\has bs t = true/\f ≠ t then (true,bs.set t.toNat (box bs t++[e])) else (false,bs)
def sends (bs:S) (f e:Int):Nat->Int × S
 | 0=>(0,bs)
 | n + 1=>if (send (sends bs f e n).2 f n e).1 then ((sends bs f e n).1 + 1,(send (sends bs f e n).2 f n e).2) else ((sends bs f e n).1,(send (sends bs f e n).2 f n e).2)
def waits (bs:S) (c:Int):Int:=if has bs c then (box bs c).length else 0
def take (bs:S) (c:Int):(Int × Bool) × S:=if waits bs c = 0 then ((0,false),bs) else (((box bs c).getD 0 0,true),bs.set c.toNat ((box bs c).drop 1))
structure Fit (l:List Int) (e:Int):Prop where
 lt:∀ x ∈ l,x < e
 up:l.Pairwise (· < ·)
 len:l.length < 2 ^ 40
theorem send_len (bs:S) (f t e:Int):(send bs f t e).2.length = bs.length:=by unfold send; split <;> simp
theorem sends_len (bs:S) (f e:Int):∀ n,(sends bs f e n).2.length = bs.length
 | 0=>rfl
 | n + 1=>by unfold sends; split <;> simp only [send_len,sends_len bs f e n]
theorem send_other (bs:S) (f e:Int) (n m:Nat) (h:n ≠ m):(send bs f n e).2[m]? = bs[m]?:=by
 unfold send; split
 ·simp only [toNat_natCast]; rw [List.getElem?_set_ne h]
 ·rfl
theorem sends_ge (bs:S) (f e:Int):∀ n m,n <= m->(sends bs f e n).2[m]? = bs[m]?
 | 0,_,_=>rfl
 | n + 1,m,h=>by unfold sends; split <;> simp only <;> rw [send_other _ _ _ _ _ (by omega),sends_ge bs f e n m (by omega)]
end Mail
theorem nils:∀ (n:Nat) {l:List As} {h:Hp},aB l h->aB (all vU (replicate n (⟨none,0,0,none⟩:Sl)) (replicate n ([]:List Int))::l) h
 | 0,_,_,s=>all_nil s
 | n + 1,l,h,s=>by
  have s1:=fX (τ:=Int) (T:=t_uint64) (m:=1) (enc:=cI .u64) (nils n s)
  rw [List.replicate_succ,List.replicate_succ]
  obtain ⟨h1,h2,d,e,a,h3,h4,d2,e2,b,s'⟩:=s1
  subst e2
  obtain ⟨d3,d4⟩:=Dj.of_un_right d
  exact ⟨un h1 h3,h4,Dj.un_left d4 d2,by rw [e,nz],⟨h1,h3,d3,rfl,a,b⟩,s'⟩
theorem sp_mail_New (n:Int) (h1:¬ n < 1) (h2:¬ n > 8):Sp prog ue [.int .i64 n] qa [] (fun r=>aB [jJ r (replicate n.toNat [])]):=by
 intro h st
 refine sim_mail_New _ ?_
 unfold sh_mail_New
 obtain ⟨m,rfl⟩:=Int.eq_ofNat_of_zero_le (show 0 <= n by omega)
 refine dO (by simp; omega) ?_
 refine oO (τ:=Sl) (x0:=⟨none,0,0,none⟩) (enc:=cS) (n:=m) (T:=bf) (m:=1) vN rfl st ?_ ?_ ?_
 ·omega
 ·omega
 ·intro v h' s1
  have s2:=nils m s1
  refine pG s2 fun b h'' s3=>?_
  exact mail_cl (by simp) (by simp; omega) (bb [0,1] s3 rfl)
theorem sp_mail_is (x:Ptr) (bs:Mail.S) (c:Int):Sp prog mg [pv x,.int .i64 c] aC [jJ x bs] (fun r=>pa_ (r = Mail.has bs c) [jJ x bs]):=by
 intro h s0
 obtain ⟨b,s,ss,rfl,hss,hb,hs,st⟩:=mail_op s0
 refine sim_mail_Mail_is _ _ ?_
 unfold sh_mail_Mail_is
 refine aY (fun k=>?_) (fun k=>?_)
 ·have k':0 <= c:=by simpa using k
  refine cL (bp s st (i:=0) rfl rfl rfl ?_)
  exact aZ (by simp [Mail.has,k',hs]) s0
 ·have k':¬ 0 <= c:=by simpa using k
  exact aZ (by simp [Mail.has]; intro h; exact absurd h k') s0
theorem has_nat {bs:Mail.S} {c:Int} (h:Mail.has bs c = true):∃ n:Nat,c = n/\n < bs.length:=by
 unfold Mail.has at h
 have:=of_decide_eq_true h
 exact ⟨c.toNat,by omega,by omega⟩
theorem place_end {l:List Int} {e:Int} (f:Mail.Fit l e) {i:Nat} (p:PlaceIn l e i):i = l.length:=by
 rcases Nat.lt_or_ge i l.length with h | h
 ·have h1:=p.hi i h (le_refl _)
  have h2:=f.lt _ (List.getElem_mem h)
  omega
 ·have:=p.le; omega
theorem sp_mail_Send (x:Ptr) (bs:Mail.S) (f t e:Int) (hf:∀ l,bs[t.toNat]? = some l->Mail.Fit l e):Sp prog qS [pv x,.int .i64 f,.int .i64 t,.int .u64 e] aC [jJ x bs] (fun r=>pa_ (r = (Mail.send bs f t e).1) [jJ x (Mail.send bs f t e).2]):=by
 intro h s0
 refine sim_mail_Mail_Send _ _ _ _ ?_
 unfold uY
 refine cW [0] (sp_mail_is x bs f) s0 rfl fun r h1 s1=>?_
 obtain ⟨rfl,s2⟩:=bt.1 s1
 have no:¬ (Mail.has bs f = true/\Mail.has bs t = true/\f ≠ t)->Mail.send bs f t e = (false,bs):=fun hh=>if_neg hh
 refine aY (fun k=>?_) (fun k=>?_)
 ·have k':Mail.has bs f = true:=by simpa using k
  refine cW [0] (sp_mail_is x bs t) s2 rfl fun r h3 s3=>?_
  obtain ⟨rfl,s4⟩:=bt.1 s3
  refine aY (fun k2=>?_) (fun k2=>?_)
  ·rw [no (by simp at k2; intro hh; rcases k2 with k2 | k2; exact absurd hh.2.1 (by simp [k2]); exact hh.2.2 k2)]
   exact aZ rfl s4
  ·have k2':Mail.has bs t = true/\f ≠ t:=by simpa using k2
   obtain ⟨n,rfl,hn⟩:=has_nat k2'.1
   have ed:Mail.send bs f n e = (true,bs.set n (Mail.box bs n++[e])):=if_pos ⟨k',k2'.1,k2'.2⟩
   rw [ed]
   obtain ⟨b,s,ss,rfl,hss,hb,hs,st⟩:=mail_op s4
   have hns:n < ss.length:=by omega
   have hg:Mail.box bs n = bs[n]:=by simp [Mail.box,hn]
   have fit:=hf bs[n] (by rw [toNat_natCast]; exact aE hn)
   refine cL (bp s st (i:=0) rfl rfl rfl ?_)
   refine cZ st (j:=1) rfl (by omega) (by omega) fun q hq=>?_
   refine dz (j:=1) (i:=n) (k:=0) ss[n] sm st rfl hq (by simp) (aE hns) (by simp) ?_
   have st1:=jC (aE hns) (aE hn) (bb [2] st rfl)
   refine cW [0] (sp_BinarySearch ss[n] bs[n] e (by have:=fit.len; omega) (fun i j hi hj hij=>Int.le_of_lt (List.pairwise_iff_getElem.1 fit.up i j hi hj hij))) st1 rfl fun r h5 s5=>?_
   obtain ⟨⟨i,pi,hr⟩,s6⟩:=bt.1 s5
   have hi:=place_end fit pi
   subst hi
   have hr2:r.2 = false:=by rw [hr]; simp
   refine eD (by rw [hr2]; rfl) ?_
   refine bp s s6 (i:=2) rfl rfl rfl ?_
   refine cZ s6 (j:=3) rfl (by omega) (by omega) fun q2 hq2=>?_
   refine dz (j:=3) (i:=n) (k:=0) ss[n] sm s6 rfl hq2 (by simp) (aE hns) (by simp) ?_
   have fin:∀ (r55:Sl) (v54:Sl) (h:Hp),aB [vU r55 (bs[n]++[e]),but vU ss bs n,blk b lO [sv s],vec bf 1 cS s ss] h ->
     ix s n (fun q56=>Mb.st (q56.1,q56.2 + Int.toNat n * 1) [sv r55]<|pa_ (true = true) [jJ (some (b,0)) (bs.set n (bs[n]++[e]))]) h:=by
    intro r55 v54 h s7
    refine cZ s7 (j:=3) rfl (by omega) (by omega) fun q3 hq3=>?_
    refine uF (j:=3) (i:=n) (k:=0) r55 sm s7 rfl hq3 (by simp) (aE hns) (by simp) rfl fun h8 s8=>?_
    have s9:=all_in2 (y:=bs[n]++[e]) hn hss s8
    exact aZ rfl (mail_cl (by simpa using hss) (by simpa using hb) (bb [1,1] s9 rfl))
   rw [hg,hr]
   refine ⟨?_,?_⟩
   ·refine bp s s6 (i:=2) rfl rfl rfl ?_
    refine fP (τ:=Int) [e] (val:=fun x=>.int .u64 x) (enc:=cI .u64) gm (ct _) (fun _=>rfl) s6 rfl rfl (by simp) fun y h' s7=>?_
    refine cW [1,0] (vY ss[n] y bs[n] e fit.len) s7 rfl fun r h8 s8=>?_
    exact fin r y h8 s8
   ·refine fP (τ:=Int) [e] (val:=fun x=>.int .u64 x) (enc:=cI .u64) gm (ct _) (fun _=>rfl) s6 rfl rfl (by simp) fun y h' s7=>?_
    refine ⟨?_,?_⟩
    ·refine bp s s7 (i:=3) rfl rfl rfl ?_
     refine cW [1,0] (vY ss[n] y bs[n] e fit.len) s7 rfl fun r h8 s8=>?_
     exact fin r y h8 s8
    ·refine cW [1,0] (vY ss[n] y bs[n] e fit.len) s7 rfl fun r h8 s8=>?_
     refine bp s s8 (i:=2) rfl rfl rfl ?_
     exact fin r y h8 s8
 ·rw [no (by simp at k; simp [k])]
  exact aZ rfl s2
theorem sp_mail_All (x:Ptr) (bs:Mail.S) (f e:Int) (hf:∀ l ∈ bs,Mail.Fit l e):Sp prog nV [pv x,.int .i64 f,.int .u64 e] eF [jJ x bs] (fun r=>pa_ (r = (Mail.sends bs f e bs.length).1) [jJ x (Mail.sends bs f e bs.length).2]):=by
 intro h s0
 obtain ⟨b,s,ss,rfl,hss,hb,hs,st⟩:=mail_op s0
 refine sim_mail_Mail_All _ _ _ ?_
 unfold wQ
 refine dO rfl (cL (bp s st (i:=0) rfl rfl rfl ?_))
 refine Lp.intro (fun (z:Int × Int) h=>∃ n:Nat,z.2 = n/\n <= bs.length/\z.1 = (Mail.sends bs f e n).1/\0 <= z.1/\z.1 <= n/\aB [jJ (some (b,0)) (Mail.sends bs f e n).2] h) (fun (z:Int × Int) _=>bs.length - z.2.toNat) ⟨0,rfl,Nat.zero_le _,rfl,Int.le_refl _,Int.le_refl _,s0⟩ ?_
 rintro ⟨z,i⟩ h ⟨n,rfl,hn,hz,hz0,hz1,s1⟩
 simp only at hz hz0 hz1
 unfold qV
 refine aY (fun k=>?_) (fun k=>?_)
 ·have hlt:n < bs.length:=by rw [hs] at k; simpa using k
  have hw:i64.wrap ((n:Int) + 1) = ((n + 1:Nat):Int):=by rw [bm (by omega) (by omega)]; rfl
  have hw2:i64.wrap (z + 1) = z + 1:=bm (by omega) (by omega)
  refine cW [0] (sp_mail_Send (some (b,0)) (Mail.sends bs f e n).2 f n e ?_) s1 rfl fun r h2 s2=>?_
  ·intro l hl
   rw [toNat_natCast,Mail.sends_ge bs f e n n (le_refl _)] at hl
   exact hf l (List.mem_of_getElem? hl)
  obtain ⟨rfl,s3⟩:=bt.1 s2
  refine aY (fun k2=>?_) (fun k2=>?_)
  ·have e1:Mail.sends bs f e (n + 1) = ((Mail.sends bs f e n).1 + 1,(Mail.send (Mail.sends bs f e n).2 f n e).2):=by rw [Mail.sends,if_pos k2]
   rw [hw,hw2]
   refine ⟨⟨n + 1,rfl,hlt,?_,by simp only; omega,by simp only; omega,?_⟩,by simp; omega⟩
   ·rw [e1,hz]
   ·rw [e1]; exact s3
  ·have e1:Mail.sends bs f e (n + 1) = ((Mail.sends bs f e n).1,(Mail.send (Mail.sends bs f e n).2 f n e).2):=by rw [Mail.sends,if_neg (by rw [k2]; exact Bool.false_ne_true)]
   rw [hw]
   refine ⟨⟨n + 1,rfl,hlt,?_,by simp only; omega,by simp only; omega,?_⟩,by simp; omega⟩
   ·rw [e1,hz]
   ·rw [e1]; exact s3
 ·have:n = bs.length:=by rw [hs] at k; simp at k; omega
  subst this
  exact aZ hz s1
theorem sp_mail_Waits (x:Ptr) (bs:Mail.S) (c:Int):Sp prog lF [pv x,.int .i64 c] eF [jJ x bs] (fun r=>pa_ (r = Mail.waits bs c) [jJ x bs]):=by
 intro h s0
 refine sim_mail_Mail_Waits _ _ ?_
 unfold tM
 refine cW [0] (sp_mail_is x bs c) s0 rfl fun r h1 s1=>?_
 obtain ⟨rfl,s2⟩:=bt.1 s1
 refine aY (fun k=>?_) (fun k=>?_)
 ·have k':Mail.has bs c = false:=by simpa using k
  exact aZ (by simp [Mail.waits,k']) s2
 ·have k':Mail.has bs c = true:=by simpa using k
  obtain ⟨n,rfl,hn⟩:=has_nat k'
  obtain ⟨b,s,ss,rfl,hss,hb,hs,st⟩:=mail_op s2
  have hns:n < ss.length:=by omega
  refine cL (bp s st (i:=0) rfl rfl rfl ?_)
  refine cZ st (j:=1) rfl (by omega) (by omega) fun q hq=>?_
  refine dz (j:=1) (i:=n) (k:=0) ss[n] sm st rfl hq (by simp) (aE hns) (by simp) ?_
  have st1:=jC (aE hns) (aE hn) (bb [2] st rfl)
  have hl:=(cc (j:=0) st1 rfl).1
  exact aZ (by simp [Mail.waits,k',Mail.box,hn,hl]) s2
theorem sp_mail_Take (x:Ptr) (bs:Mail.S) (c:Int):Sp prog mL [pv x,.int .i64 c] bN [jJ x bs] (fun r=>pa_ (r = (Mail.take bs c).1) [jJ x (Mail.take bs c).2]):=by
 intro h s0
 refine sim_mail_Mail_Take _ _ ?_
 unfold uX
 refine cW [0] (sp_mail_Waits x bs c) s0 rfl fun r h1 s1=>?_
 obtain ⟨rfl,s2⟩:=bt.1 s1
 refine aY (fun k=>?_) (fun k=>?_)
 ·have k':Mail.waits bs c = 0:=by simpa using k
  have e1:Mail.take bs c = ((0,false),bs):=if_pos k'
  rw [e1]
  exact aZ rfl s2
 ·have k':¬ Mail.waits bs c = 0:=by simpa using k
  have e1:Mail.take bs c = (((Mail.box bs c).getD 0 0,true),bs.set c.toNat ((Mail.box bs c).drop 1)):=if_neg k'
  rw [e1]
  have hh:Mail.has bs c = true:=by
   unfold Mail.waits at k'
   cases e:Mail.has bs c with
   | true=>rfl
   | false=>rw [e] at k'; exact absurd rfl k'
  obtain ⟨n,rfl,hn⟩:=has_nat hh
  obtain ⟨b,s,ss,rfl,hss,hb,hs,st⟩:=mail_op s2
  have hns:n < ss.length:=by omega
  have hg:Mail.box bs n = bs[n]:=by simp [Mail.box,hn]
  have h0:0 < bs[n].length:=by
   unfold Mail.waits at k'
   rw [hh,hg] at k'
   simp at k'
   exact List.length_pos_iff.2 k'
  rw [hg]
  refine cL (bp s st (i:=0) rfl rfl rfl ?_)
  refine cZ st (j:=1) rfl (by omega) (by omega) fun q hq=>?_
  refine dz (j:=1) (i:=n) (k:=0) ss[n] sm st rfl hq (by simp) (aE hns) (by simp) ?_
  have st1:=jC (aE hns) (aE hn) (bb [2] st rfl)
  refine cZ st1 (j:=0) rfl (by omega) (by omega) fun q1 hq1=>?_
  refine dz (j:=0) (i:=0) (k:=0) bs[n][0] (ct _) st1 rfl hq1 (by simp) (aE h0) (by simp) ?_
  refine bp s st1 (i:=2) rfl rfl rfl ?_
  refine cZ st1 (j:=3) rfl (by omega) (by omega) fun q2 hq2=>?_
  refine dz (j:=3) (i:=n) (k:=0) ss[n] sm st1 rfl hq2 (by simp) (aE hns) (by simp) ?_
  have fin:∀ (v:Sl) (h:Hp),aB [vU v (bs[n].drop 1),but vU ss bs n,blk b lO [sv s],vec bf 1 cS s ss] h ->
    ix s n (fun q33=>Mb.st (q33.1,q33.2 + Int.toNat n * 1) [sv v]<|pa_ ((bs[n][0],true) = ((bs[n].getD 0 0,true):Int × Bool)) [jJ (some (b,0)) (bs.set n (bs[n].drop 1))]) h:=by
   intro v h s7
   refine cZ s7 (j:=3) rfl (by omega) (by omega) fun q3 hq3=>?_
   refine uF (j:=3) (i:=n) (k:=0) v sm s7 rfl hq3 (by simp) (aE hns) (by simp) rfl fun h8 s8=>?_
   have s9:=all_in2 (y:=bs[n].drop 1) hn hss s8
   exact aZ (by simp [h0]) (mail_cl (by simpa using hss) (by simpa using hb) (bb [1,1] s9 rfl))
  refine ⟨?_,?_⟩
  ·refine bp s st1 (i:=2) rfl rfl rfl ?_
   refine sliceFrom_v (i:=0) (n:=1) gm (ct _) rfl st1 rfl h0 fun v s5=>?_
   exact fin v _ s5
  ·refine sliceFrom_v (i:=0) (n:=1) gm (ct _) rfl st1 rfl h0 fun v s5=>?_
   refine bp s s5 (i:=2) rfl rfl rfl ?_
   exact fin v _ s5
end
end Go.Proofs.YtemoifebbhoinaaGreatDoor
