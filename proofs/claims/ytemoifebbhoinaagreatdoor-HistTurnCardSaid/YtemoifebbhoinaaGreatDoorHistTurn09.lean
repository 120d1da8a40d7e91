/- Part of the proof of: The law HistTurn returns true for every input, and leaves its arguments as they were. -/
import Derived.Test.YtemoifebbhoinaaGreatDoorHistTurn08
set_option linter.all false
set_option maxRecDepth 20000
namespace Go.Proofs.YtemoifebbhoinaaGreatDoor
open Go Mb
namespace Tlb
theorem ln_set {ls:List TL} (hl:ls.length = 8) {n:Nat} (hn:n < 8) (y:TL) (i:Nat):ln (ls.set n y) i = if i = n then y else ln ls i:=by
  simp only [ln,List.getD_eq_getElem?_getD,List.getElem?_set]
  by_cases e:n = i
  · subst e; simp [hl,hn]
  · rw [if_neg e,if_neg (fun h=>e h.symm)]
abbrev bs (p:Int):Nat:=(p.tmod 4).toNat * 2
theorem bs_lt {p:Int} (h:0 ≤ p):bs p + 1 < 8:=by
  obtain ⟨q,h1,h2⟩:=tmod4 h
  unfold bs; rw [h1]; simp; omega
theorem at_iff {ls:List TL} {e p:Int} {n:Nat}:at_ ls e p = some n↔(0 ≤ e∧0 ≤ p∧p < 8)∧(n = bs p∧hit ls e p (bs p)∨n = bs p + 1∧hit ls e p (bs p + 1)∧¬ hit ls e p (bs p)):=by
  unfold at_
  by_cases h:e < 0∨p < 0∨p ≥ 8
  · rw [if_pos h]
    constructor
    · intro x; cases x
    · rintro ⟨x,_⟩; omega
  · rw [if_neg h]
    by_cases h1:hit ls e p (bs p)
    · rw [if_pos h1]
      constructor
      · intro x; cases x; exact ⟨by omega,.inl ⟨rfl,h1⟩⟩
      · rintro ⟨_,⟨rfl,_⟩ | ⟨_,_,h2⟩⟩
        · rfl
        · exact absurd h1 h2
    · rw [if_neg h1]
      by_cases h2:hit ls e p (bs p + 1)
      · rw [if_pos h2]
        constructor
        · intro x; cases x; exact ⟨by omega,.inr ⟨rfl,h2,h1⟩⟩
        · rintro ⟨_,⟨_,h3⟩ | ⟨rfl,_⟩⟩
          · exact absurd h3 h1
          · rfl
      · rw [if_neg h2]
        constructor
        · intro x; cases x
        · rintro ⟨_,⟨_,h3⟩ | ⟨_,h3,_⟩⟩
          · exact absurd h3 h1
          · exact absurd h3 h2
structure TOk (t:Buf):Prop where
  len:t.1.length = 8
  at_:∀ i,i < 8→0 ≤ (ln t.1 i).fl.fEnv→at_ t.1 (ln t.1 i).fl.fEnv (ln t.1 i).fl.fPage = some i
theorem mem_lines {t:Buf} (h:t.1.length = 8) {l:mE}:l ∈ lines t↔∃ i,i < 8∧l = (ln t.1 i).fl:=by
  unfold lines
  rw [List.mem_map]
  constructor
  · rintro ⟨x,hx,rfl⟩
    obtain ⟨i,hi,rfl⟩:=List.getElem_of_mem hx
    exact ⟨i,by omega,by simp [ln,hi]⟩
  · rintro ⟨i,hi,rfl⟩
    have:i < t.1.length:=by omega
    exact ⟨t.1[i],List.getElem_mem this,by simp [ln,this]⟩
theorem tok_new:TOk tlb0:=by
  refine ⟨rfl,fun i hi h=>?_⟩
  have key:∀ i,i < 8→(ln tlb0.1 i).fl.fEnv = -1:=by decide
  rw [key i hi] at h
  exact absurd h (by decide)
theorem tok_clear {t:Buf} (h:TOk t) {n:Nat} (hn:n < 8) {y:TL} (hy:y.fl.fEnv < 0) (m:Int):TOk (t.1.set n y,m):=by
  refine ⟨by simpa using h.len,fun i hi he=>?_⟩
  simp only at he ⊢
  rw [ln_set h.len hn] at he ⊢
  by_cases e:i = n
  · rw [if_pos e] at he; omega
  · rw [if_neg e] at he ⊢
    have h1:=at_iff.1 (h.at_ i hi he)
    have keep:∀ j,hit (t.1.set n y) (ln t.1 i).fl.fEnv (ln t.1 i).fl.fPage j↔j ≠ n∧hit t.1 (ln t.1 i).fl.fEnv (ln t.1 i).fl.fPage j:=by
      intro j
      unfold hit
      rw [ln_set h.len hn]
      by_cases ej:j = n
      · rw [if_pos ej]
        constructor
        · intro x; omega
        · intro x; exact absurd ej x.1
      · rw [if_neg ej]; simp [ej]
    refine at_iff.2 ⟨h1.1,?_⟩
    rcases h1.2 with ⟨a,b⟩ | ⟨a,b,c⟩
    · exact .inl ⟨a,(keep _).2 ⟨a ▸ e,b⟩⟩
    · exact .inr ⟨a,(keep _).2 ⟨a ▸ e,b⟩,fun x=>c ((keep _).1 x).2⟩
theorem flush_eq {t:Buf} {e p:Int}:flush t e p = (match at_ t.1 e p with | some n=>(true,t.1.set n { ln t.1 n with fl:=dG },t.2) | none=>(false,t)):=rfl
theorem lines_clear {t:Buf} (h:TOk t) {n:Nat} (hn:n < 8) {y:TL} (hy:y.fl.fEnv < 0) {m:Int} {l:mE} (hl:l ∈ lines (t.1.set n y,m)) (he:0 ≤ l.fEnv):∃ i,i < 8∧i ≠ n∧l = (ln t.1 i).fl:=by
  obtain ⟨i,hi,rfl⟩:=(mem_lines (by simpa using h.len)).1 hl
  simp only at he ⊢
  rw [ln_set h.len hn] at he ⊢
  by_cases e:i = n
  · rw [if_pos e] at he; omega
  · rw [if_neg e]; exact ⟨i,hi,e,rfl⟩
theorem tok_flush {t:Buf} (h:TOk t) (e p:Int):TOk (flush t e p).2:=by
  rw [flush_eq]
  split
  · rename_i n hn
    exact tok_clear h (at_lt hn) (by show (-1:Int) < 0; omega) _
  · exact h
theorem lines_flush {t:Buf} (h:TOk t) {e p:Int} {l:mE} (hl:l ∈ lines (flush t e p).2) (he:0 ≤ l.fEnv):l ∈ lines t∧¬ (l.fEnv = e∧l.fPage = p):=by
  rw [flush_eq] at hl
  split at hl
  · rename_i n hn
    obtain ⟨i,hi,hne,rfl⟩:=lines_clear h (at_lt hn) (by show (-1:Int) < 0; omega) hl he
    refine ⟨(mem_lines h.len).2 ⟨i,hi,rfl⟩,?_⟩
    rintro ⟨rfl,rfl⟩
    have:=h.at_ i hi he
    rw [hn] at this
    exact hne (Option.some.inj this).symm
  · rename_i hn
    refine ⟨hl,?_⟩
    rintro ⟨rfl,rfl⟩
    obtain ⟨i,hi,rfl⟩:=(mem_lines h.len).1 hl
    rw [h.at_ i hi he] at hn
    cases hn
theorem evict_in {t:Buf} (h:TOk t) (s w:Int):TOk (evict t s w).2∧∀ l ∈ lines (evict t s w).2,0 ≤ l.fEnv→l ∈ lines t:=by
  unfold evict
  split
  · exact ⟨h,fun l hl _=>hl⟩
  · rename_i c
    split
    · exact ⟨h,fun l hl _=>hl⟩
    · have hn:s.toNat * 2 + w.toNat < 8:=by omega
      refine ⟨tok_clear h hn (by show (-1:Int) < 0; omega) _,fun l hl he=>?_⟩
      obtain ⟨i,hi,_,rfl⟩:=lines_clear h hn (by show (-1:Int) < 0; omega) hl he
      exact (mem_lines h.len).2 ⟨i,hi,rfl⟩
theorem room_in (ls:List TL) (p:Int):room ls (bs p) = bs p∨room ls (bs p) = bs p + 1:=by
  unfold room; repeat' split
  all_goals simp
theorem place_in {ls:List TL} {a:mE} (hp:0 ≤ a.fPage):place ls a = bs a.fPage∨place ls a = bs a.fPage + 1:=by
  unfold place
  split
  · rename_i n hn
    rcases (at_iff.1 hn).2 with h | h
    · exact .inl h.1
    · exact .inr h.1
  · exact room_in ls a.fPage
theorem tok_fill {t:Buf} (h:TOk t) (a:mE):TOk (fill t a).2∧∀ l ∈ lines (fill t a).2,0 ≤ l.fEnv→l = a∧¬ bad a∨l ∈ lines t:=by
  unfold fill
  split
  · exact ⟨h,fun l hl _=>.inr hl⟩
  · rename_i hb
    have hb':0 ≤ a.fEnv∧0 ≤ a.fPage∧a.fPage < 8:=by unfold bad at hb; omega
    have hpl:=place_in (ls:=t.1) hb'.2.1
    have hbs:=bs_lt hb'.2.1
    have hn:place t.1 a < 8:=by omega
    have eq:=ln_set h.len hn (⟨a,IntKind.i64.wrap (t.2 + 1)⟩:TL)
    have other:∀ i,i < 8→i ≠ place t.1 a→0 ≤ (ln t.1 i).fl.fEnv→¬ ((ln t.1 i).fl.fEnv = a.fEnv∧(ln t.1 i).fl.fPage = a.fPage):=by
      rintro i hi hne he ⟨e1,e2⟩
      have:=h.at_ i hi he
      rw [e1,e2] at this
      unfold place at hne
      rw [this] at hne
      exact hne rfl
    refine ⟨⟨by simpa using h.len,fun i hi he=>?_⟩,fun l hl he=>?_⟩
    · simp only at he ⊢
      rw [eq] at he ⊢
      by_cases e:i = place t.1 a
      · rw [if_pos e] at he ⊢
        refine at_iff.2 ⟨hb',?_⟩
        have hself:hit (t.1.set (place t.1 a) ⟨a,IntKind.i64.wrap (t.2 + 1)⟩) a.fEnv a.fPage (place t.1 a):=by unfold hit; rw [eq,if_pos rfl]; exact ⟨rfl,rfl⟩
        rcases hpl with h1 | h1
        · exact .inl ⟨e.trans h1,by rw [h1] at hself ⊢; exact hself⟩
        · refine .inr ⟨e.trans h1,by rw [h1] at hself ⊢; exact hself,fun hx=>?_⟩
          have hx:hit (t.1.set (place t.1 a) ⟨a,IntKind.i64.wrap (t.2 + 1)⟩) a.fEnv a.fPage (bs a.fPage):=hx
          unfold hit at hx
          rw [eq,if_neg (by rw [h1]; omega)] at hx
          exact other _ (by omega) (by rw [h1]; omega) (by rw [hx.1]; exact hb'.1) hx
      · rw [if_neg e] at he ⊢
        have h1:=at_iff.1 (h.at_ i hi he)
        have ho:=other i hi e he
        have keep:∀ j,hit (t.1.set (place t.1 a) ⟨a,IntKind.i64.wrap (t.2 + 1)⟩) (ln t.1 i).fl.fEnv (ln t.1 i).fl.fPage j↔j ≠ place t.1 a∧hit t.1 (ln t.1 i).fl.fEnv (ln t.1 i).fl.fPage j:=by
          intro j
          unfold hit
          rw [eq]
          by_cases ej:j = place t.1 a
          · rw [if_pos ej]
            constructor
            · rintro ⟨x,y⟩; exact absurd ⟨x.symm,y.symm⟩ ho
            · intro x; exact absurd ej x.1
          · rw [if_neg ej]; simp [ej]
        refine at_iff.2 ⟨h1.1,?_⟩
        rcases h1.2 with ⟨x,y⟩ | ⟨x,y,z⟩
        · exact .inl ⟨x,(keep _).2 ⟨x ▸ e,y⟩⟩
        · exact .inr ⟨x,(keep _).2 ⟨x ▸ e,y⟩,fun u=>z ((keep _).1 u).2⟩
    · obtain ⟨i,hi,rfl⟩:=(mem_lines (by simpa using h.len)).1 hl
      simp only at he ⊢
      rw [eq] at he ⊢
      by_cases e:i = place t.1 a
      · rw [if_pos e]; exact .inl ⟨rfl,hb⟩
      · rw [if_neg e]; exact .inr ((mem_lines h.len).2 ⟨i,hi,rfl⟩)
end Tlb
theorem cleans_spec (k:KK):∀ (L:List mE) {b:Buf},Tlb.TOk b→Tlb.TOk (KK.cleans k L b)∧∀ l ∈ Tlb.lines (KK.cleans k L b),0 ≤ l.fEnv→l ∈ Tlb.lines b∧∀ d ∈ L,KK.stale k d = true→¬ (l.fEnv = d.fEnv∧l.fPage = d.fPage)
  | [],b,h=>⟨h,fun l hl _=>⟨hl,fun d hd=>by cases hd⟩⟩
  | d::L,b,h=>by
    rw [KK.cleans]
    split
    · rename_i hs
      have h1:=Tlb.tok_flush h d.fEnv d.fPage
      obtain ⟨i1,i2⟩:=cleans_spec k L h1
      refine ⟨i1,fun l hl he=>?_⟩
      obtain ⟨j1,j2⟩:=i2 l hl he
      obtain ⟨k1,k2⟩:=Tlb.lines_flush h j1 he
      refine ⟨k1,fun x hx hsx=>?_⟩
      rcases List.mem_cons.1 hx with rfl | hx
      · exact k2
      · exact j2 x hx hsx
    · rename_i hs
      obtain ⟨i1,i2⟩:=cleans_spec k L h
      refine ⟨i1,fun l hl he=>?_⟩
      obtain ⟨j1,j2⟩:=i2 l hl he
      refine ⟨j1,fun x hx hsx=>?_⟩
      rcases List.mem_cons.1 hx with rfl | hx
      · exact absurd hsx hs
      · exact j2 x hx hsx
theorem cleans_all {k:KK} {b:Buf} (h:Tlb.TOk b):Tlb.TOk (KK.cleans k (Tlb.lines b) b)∧∀ l ∈ Tlb.lines (KK.cleans k (Tlb.lines b) b),0 ≤ l.fEnv→l ∈ Tlb.lines b∧KK.stale k l = false:=by
  obtain ⟨h1,h2⟩:=cleans_spec k (Tlb.lines b) h
  refine ⟨h1,fun l hl he=>?_⟩
  obtain ⟨a,c⟩:=h2 l hl he
  refine ⟨a,?_⟩
  cases hs:KK.stale k l with
  | false=>rfl
  | true=>exact absurd ⟨rfl,rfl⟩ (c l a hs)
end Go.Proofs.YtemoifebbhoinaaGreatDoor
namespace Go.Proofs.YtemoifebbhoinaaGreatDoor
open Go Mb
theorem may3 {r:Int} (h:1 ≤ r∧r ≤ 3):r = 1∨r = 2∨r = 3:=by omega
theorem within_and {a b c:Int} (hb:1 ≤ b∧b ≤ 3) (hc:1 ≤ c∧c ≤ 3):aV a (iand .i64 b c) = true↔aV a b = true∧aV a c = true:=by
  by_cases ha:1 ≤ a∧a ≤ 3
  · rcases may3 ha with rfl | rfl | rfl <;> rcases may3 hb with rfl | rfl | rfl <;> rcases may3 hc with rfl | rfl | rfl <;> decide
  · constructor
    · intro h; exact absurd (eL h).1 ha
    · intro h; exact absurd (eL h.1).1 ha
theorem iand_le {b c:Int} (hb:1 ≤ b∧b ≤ 3) (hc:1 ≤ c∧c ≤ 3):0 ≤ iand .i64 b c∧iand .i64 b c ≤ 3:=by
  rcases may3 hb with rfl | rfl | rfl <;> rcases may3 hc with rfl | rfl | rfl <;> decide
theorem within_refl {a:Int} (h:1 ≤ a∧a ≤ 3):aV a a = true:=by rcases may3 h with rfl | rfl | rfl <;> decide
structure Cov (p:Pte) (l:mE):Prop where
  f:p.fFrame = l.fFrame
  w:aV l.fRights p.fRights = true
theorem Cov.r {p:Pte} {l:mE} (h:Cov p l):1 ≤ p.fRights∧p.fRights ≤ 3:=(eL h.w).2
theorem not_cov0 {l:mE}:¬ Cov dp l:=fun h=>by have:=h.r; simp at this
structure Stay (p:PK) (e:Int) (c:dv) (a pg s r:Int):Prop where
  s7:c.e0 = 7→¬ (e = a∧c.e1 = pg)
  s8:c.e0 = 8→e = a→c.e1 = pg→aV c.e2 (Caps.get p.caps a s).fRights = true→aV r c.e2 = true
  s4:c.e0 = 4∨c.e0 = 5→PK.gz p e c a s = false
theorem Stay.keep {p p':PK} {e:Int} {c:dv} {a pg s r:Int} (h:Stay p e c a pg s r) (k:Caps.Keep p.caps p'.caps a s) (hl:p'.caps.length = p.caps.length):Stay p' e c a pg s r:=by
  refine ⟨h.s7,fun h1 h2 h3 h4=>h.s8 h1 h2 h3 (by rw [← k.g]; exact h4),fun h1=>?_⟩
  have:=h.s4 h1
  unfold PK.gz at this ⊢
  have hh:Caps.has p'.caps a s = Caps.has p.caps a s:=by unfold Caps.has; rw [hl]
  rw [hh,k.g,k.u]
  exact this
theorem aft_cov {p:PK} {e:Int} {c:dv} {a pg:Int} {l:mE} (ht:Tk c) (hc:Cov (PK.q p a pg) l) (hs:Stay p e c a pg (PK.q p a pg).fSlot l.fRights):Cov (PK.aft p e c a pg) l∧(PK.aft p e c a pg).fSlot = (PK.q p a pg).fSlot:=by
  unfold PK.aft
  by_cases h7:c.e0 = 7
  · rw [if_pos h7,if_neg (hs.s7 h7)]; exact ⟨hc,rfl⟩
  · rw [if_neg h7]
    by_cases h8:c.e0 = 8
    · rw [if_pos h8]
      split
      · rename_i h
        obtain ⟨⟨rfl,rfl⟩,h1,h2⟩:=h
        exact ⟨⟨hc.f,hs.s8 h8 rfl rfl h2⟩,rfl⟩
      · exact ⟨hc,rfl⟩
    · rw [if_neg h8,if_neg]
      · exact ⟨hc,rfl⟩
      · rintro ⟨_,h⟩
        rw [hs.s4 (by unfold Tk at ht; omega)] at h
        cases h
theorem at_rights {t:Caps.T} {e s:Int} (h:Caps.has t e s = true):(Caps.at_ t e s).1.fRights = (Caps.get t e s).fRights:=by
  unfold Caps.at_
  by_cases hr:(Caps.get t e s).fRights ≠ 0
  · rw [if_pos ⟨h,hr⟩]
  · rw [if_neg (fun x=>hr x.2)]
    have:(Caps.get t e s).fRights = 0:=by simpa using hr
    rw [this]
structure Teller (n:Int) (x:KC):Prop where
  t:Tk x.fc
  k:Word.check x.fc n = 0
  w:Cw x.fc
theorem left_cov {p:PK} {x:KC} {a pg:Int} {l:mE} {qq:Pte} (hn:1 ≤ p.s.fEnvs∧p.s.fEnvs ≤ 4) (T:Teller p.s.fEnvs x) (hb:Caps.has p.caps a qq.fSlot = true) (hq:1 ≤ qq.fRights∧qq.fRights ≤ 3) :
    (Cov (KK.left p x a pg qq) l↔Cov qq l∧Stay p x.fenv x.fc a pg qq.fSlot l.fRights)∧((KK.left p x a pg qq).fRights ≠ 0→(KK.left p x a pg qq).fSlot = qq.fSlot∧1 ≤ (KK.left p x a pg qq).fRights∧(KK.left p x a pg qq).fRights ≤ 3):=by
  have w:=well_of hn.1 hn.2 T.k
  have ht:=T.t
  have h1:IntKind.i64.wrap x.fc.e1 = x.fc.e1:=kwr T.w.c1 (by have:=w.w1 (by unfold Tk at ht; omega); omega)
  have hg:KK.goes p x a qq.fSlot = PK.gz p x.fenv x.fc a qq.fSlot:=by unfold KK.goes PK.gz; rw [h1]
  unfold KK.left
  rw [h1]
  by_cases h7:x.fc.e0 = 7
  · rw [if_pos h7]
    by_cases ho:x.fenv = a∧x.fc.e1 = pg
    · rw [if_pos ho]
      refine ⟨⟨fun h=>absurd h not_cov0,fun h=>absurd ho (h.2.s7 h7)⟩,fun h=>absurd rfl h⟩
    · rw [if_neg ho]
      refine ⟨⟨fun h=>⟨h,⟨fun _=>ho,fun h8=>by omega,fun h45=>by omega⟩⟩,fun h=>h.1⟩,fun _=>⟨rfl,hq⟩⟩
  · rw [if_neg h7]
    by_cases h8:x.fc.e0 = 8
    · have h5:=w.w5 h8
      have h2:IntKind.i64.wrap x.fc.e2 = x.fc.e2:=kwr T.w.c2 (by omega)
      rw [if_pos h8,h2,at_rights hb]
      by_cases ho:(x.fenv = a∧x.fc.e1 = pg)∧aV x.fc.e2 (Caps.get p.caps a qq.fSlot).fRights = true
      · rw [if_pos ho]
        have hw:=within_and (a:=l.fRights) hq h5
        refine ⟨⟨fun h=>?_,fun h=>?_⟩,fun h=>⟨rfl,?_⟩⟩
        · have h3:=hw.1 h.w
          exact ⟨⟨h.f,h3.1⟩,⟨fun h=>by omega,fun _ _ _ _=>h3.2,fun h=>by omega⟩⟩
        · exact ⟨h.1.f,hw.2 ⟨h.1.w,h.2.s8 h8 ho.1.1 ho.1.2 ho.2⟩⟩
        · have h6:=iand_le hq h5
          have h:iand .i64 qq.fRights x.fc.e2 ≠ 0:=h
          show 1 ≤ iand .i64 qq.fRights x.fc.e2∧iand .i64 qq.fRights x.fc.e2 ≤ 3
          omega
      · rw [if_neg ho]
        exact ⟨⟨fun h=>⟨h,⟨fun h=>by omega,fun _ a1 a2 a3=>absurd ⟨⟨a1,a2⟩,a3⟩ ho,fun h=>by omega⟩⟩,fun h=>h.1⟩,fun _=>⟨rfl,hq⟩⟩
    · rw [if_neg h8,hg]
      by_cases ho:PK.gz p x.fenv x.fc a qq.fSlot = true
      · rw [if_pos ho]
        refine ⟨⟨fun h=>absurd h not_cov0,fun h=>?_⟩,fun h=>absurd rfl h⟩
        have:=h.2.s4 (by unfold Tk at ht; omega)
        rw [this] at ho; cases ho
      · rw [if_neg ho]
        exact ⟨⟨fun h=>⟨h,⟨fun h=>by omega,fun h=>by omega,fun _=>by simpa using ho⟩⟩,fun h=>h.1⟩,fun _=>⟨rfl,hq⟩⟩
theorem si {p:PK} {a pg:Int} {l:mE} (hn:1 ≤ p.s.fEnvs∧p.s.fEnvs ≤ 4):∀ (cs:List (Option KC)) (b:Bool) (qq:Pte),(∀ x,some x ∈ cs→x.ftold = true→Teller p.s.fEnvs x)→(b = true→Caps.has p.caps a qq.fSlot = true∧1 ≤ qq.fRights∧qq.fRights ≤ 3) →
    (((KK.seenFrom p a pg cs b qq).2 = true∧Cov (KK.seenFrom p a pg cs b qq).1 l)↔(b = true∧Cov qq l∧∀ x,some x ∈ cs→x.ftold = true→Stay p x.fenv x.fc a pg qq.fSlot l.fRights))
  | [],b,qq,_,_=>by simp [KK.seenFrom]
  | none::cs,b,qq,hT,hb=>by
    rw [KK.seenFrom,si hn cs b qq (fun x hx=>hT x (by simp [hx])) hb]
    simp
  | some x::cs,b,qq,hT,hb=>by
    rw [KK.seenFrom]
    by_cases hc:b = true∧x.ftold = true
    · rw [if_pos hc]
      obtain ⟨b1,b2⟩:=hb hc.1
      obtain ⟨L1,L2⟩:=left_cov (l:=l) (pg:=pg) hn (hT x (by simp) hc.2) b1 b2
      have ih:=si (l:=l) (pg:=pg) hn cs ((KK.left p x a pg qq).fRights != 0) (KK.left p x a pg qq) (fun y hy=>hT y (by simp [hy])) (fun h=>by
        have:=L2 (by simpa using h)
        rw [this.1]; exact ⟨b1,this.2⟩)
      rw [ih,L1]
      constructor
      · rintro ⟨h1,h2,h3⟩
        have:=(L2 (by simpa using h1)).1
        refine ⟨hc.1,h2.1,fun y hy hty=>?_⟩
        rcases List.mem_cons.1 hy with hy | hy
        · cases hy; exact h2.2
        · rw [← this]; exact h3 y hy hty
      · rintro ⟨_,h2,h3⟩
        have hx:=h3 x (by simp) hc.2
        have hcov:=L1.2 ⟨h2,hx⟩
        have hne:(KK.left p x a pg qq).fRights ≠ 0:=by have:=hcov.r; omega
        refine ⟨by simpa using hne,⟨h2,hx⟩,fun y hy hty=>?_⟩
        rw [(L2 hne).1]; exact h3 y (by simp [hy]) hty
    · rw [if_neg hc,si hn cs b qq (fun y hy=>hT y (by simp [hy])) hb]
      constructor
      · rintro ⟨h1,h2,h3⟩
        refine ⟨h1,h2,fun y hy hty=>?_⟩
        rcases List.mem_cons.1 hy with hy | hy
        · cases hy; exact absurd ⟨h1,hty⟩ hc
        · exact h3 y hy hty
      · rintro ⟨h1,h2,h3⟩
        exact ⟨h1,h2,fun y hy hty=>h3 y (by simp [hy]) hty⟩
def Tells (k:KK) (d:Nat) (x:KC):Prop:=k.calls[d]? = some (some x)∧x.ftold = true
def iE (k:KK) (c:Nat):Int:=k.epochs.2.getD c 0
def Hears (k:KK) (c d:Nat) (x:KC):Prop:=c = d∨x.fepoch ≤ iE k c
def gG (k:KK) (c:Nat):Buf:=k.tlbs.getD c ([],0)
structure LineOk (k:KK) (c:Nat) (l:mE):Prop where
  cov:Cov (PK.q k.p l.fEnv l.fPage) l
  stay:∀ d x,Tells k d x→Hears k c d x→Stay k.p x.fenv x.fc l.fEnv l.fPage (PK.q k.p l.fEnv l.fPage).fSlot l.fRights
structure fK (k:KK):Prop where
  ok:KK.Ok k
  F:PK.Fine k.p
  cw:∀ (d:Nat) x,k.calls[d]? = some (some x)→Cw x.fc
  told:∀ d x,Tells k d x→(Tk x.fc∧Word.check x.fc k.p.s.fEnvs = 0)∧1 ≤ x.fepoch∧x.fepoch ≤ k.epochs.1.length∧k.epochs.1[(x.fepoch - 1).toNat]? = some (d:Int)
  mail:∀ c n:Nat,c < k.calls.length→n < k.epochs.1.length→k.epochs.1[n]? ≠ some (c:Int)→(n:Int) + 1 ≤ iE k c∨((n:Int) + 1) ∈ Mail.box k.boxes c
  hi:∀ c,iE k c ≤ k.epochs.1.length
  tok:∀ c,c < k.calls.length→Tlb.TOk (gG k c)
  line:∀ c,c < k.calls.length→∀ l ∈ Tlb.lines (gG k c),0 ≤ l.fEnv→LineOk k c l
theorem fK.teller {k:KK} (I:fK k) {d:Nat} {x:KC} (h:Tells k d x):Teller k.p.s.fEnvs x:=⟨(I.told d x h).1.1,(I.told d x h).1.2,I.cw d x h.1⟩
theorem fK.en {k:KK} (I:fK k):1 ≤ k.p.s.fEnvs∧k.p.s.fEnvs ≤ 4:=PK.envs_of I.F.ok
theorem q_slot {p:PK} (F:PK.Fine p) {a pg:Int} (h:(PK.q p a pg).fRights ≠ 0):Caps.has p.caps a (PK.q p a pg).fSlot = true∧1 ≤ (PK.q p a pg).fRights∧(PK.q p a pg).fRights ≤ 3:=by
  have:=F.by_ a pg h
  exact ⟨this.1,(eL this.2.2).1⟩
theorem seen_cov {k:KK} (hn:1 ≤ k.p.s.fEnvs∧k.p.s.fEnvs ≤ 4) (F:PK.Fine k.p) (hT:∀ x,some x ∈ k.calls→x.ftold = true→Teller k.p.s.fEnvs x) (a pg:Int) (l:mE) :
    ((KK.seen k a pg).2 = true∧Cov (KK.seen k a pg).1 l)↔(Cov (PK.q k.p a pg) l∧∀ x,some x ∈ k.calls→x.ftold = true→Stay k.p x.fenv x.fc a pg (PK.q k.p a pg).fSlot l.fRights):=by
  unfold KK.seen
  rw [PK.pte_snd]
  show ((KK.seenFrom k.p a pg k.calls (decide ((PK.q k.p a pg).fRights ≠ 0)) (PK.q k.p a pg)).2 = true∧Cov (KK.seenFrom k.p a pg k.calls (decide ((PK.q k.p a pg).fRights ≠ 0)) (PK.q k.p a pg)).1 l)↔_
  rw [si hn k.calls _ _ hT (fun h=>q_slot F (of_decide_eq_true h))]
  constructor
  · rintro ⟨_,h⟩; exact h
  · intro h
    exact ⟨decide_eq_true (by have:=h.1.r; omega),h⟩
theorem not_stale {k:KK} {l:mE} (h:KK.stale k l = false) (he:0 ≤ l.fEnv):(KK.seen k l.fEnv l.fPage).2 = true∧Cov (KK.seen k l.fEnv l.fPage).1 l:=by
  unfold KK.stale at h
  rw [decide_eq_true he,Bool.true_and] at h
  simp only [Bool.or_eq_false_iff,Bool.not_eq_false',bne_eq_false_iff_eq] at h
  exact ⟨h.1.1,⟨h.1.2,h.2⟩⟩
end Go.Proofs.YtemoifebbhoinaaGreatDoor
namespace Go.Proofs.YtemoifebbhoinaaGreatDoor
open Go Mb
theorem calls_mem {k:KK} {x:KC} (h:some x ∈ k.calls):∃ d:Nat,k.calls[d]? = some (some x):=by
  obtain ⟨i,hi,e⟩:=List.getElem_of_mem h
  exact ⟨i,by rw [List.getElem?_eq_getElem hi,e]⟩
theorem fK.tell_all {k:KK} (I:fK k):∀ x,some x ∈ k.calls→x.ftold = true→Teller k.p.s.fEnvs x:=fun _ hx ht=>by
  obtain ⟨d,hd⟩:=calls_mem hx
  exact I.teller ⟨hd,ht⟩
theorem heard_new (s:eH) (c:Nat):iE (KK.new s) c = 0:=by
  simp only [iE,KK.new,List.getD_eq_getElem?_getD,List.getElem?_replicate]
  split <;> rfl
theorem xf (s:eH) (d:Nat) (x:KC):(KK.new s).calls[d]? ≠ some (some x):=by
  simp only [KK.new,List.getElem?_replicate]
  split <;> simp
theorem inv_new {s:eH} (h:PK.sized s = true):fK (KK.new s):=by
  have hbuf:∀ c,c < (KK.new s).calls.length→gG (KK.new s) c = tlb0:=fun c hc=>by
    simp only [KK.new,List.length_replicate] at hc
    simp only [gG,KK.new,List.getD_eq_getElem?_getD,List.getElem?_replicate,if_pos hc,Option.getD_some]
  refine ⟨kok_new h,PK.fine_new h,fun d x hx=>absurd hx (xf s d x),fun d x hx=>absurd hx.1 (xf s d x),fun c n _ hn=>absurd hn (Nat.not_lt_zero _),fun c=>by rw [heard_new]; exact Int.natCast_nonneg _,fun c hc=>by rw [hbuf c hc]; exact Tlb.tok_new,fun c hc l hl he=>?_⟩
  rw [hbuf c hc] at hl
  obtain ⟨i,hi,rfl⟩:=(Tlb.mem_lines rfl).1 hl
  have key:∀ i,i < 8→(Tlb.ln tlb0.1 i).fl.fEnv = -1:=by decide
  rw [key i hi] at he
  exact absurd he (by decide)
theorem fK.same {k k':KK} (I:fK k) (ok:KK.Ok k') (hp:k'.p = k.p) (h1:k'.tlbs = k.tlbs) (h2:k'.boxes = k.boxes) (h3:k'.epochs = k.epochs) (h4:k'.calls = k.calls):fK k':=by
  obtain ⟨p,tl,bx,ep,ca,ev,no⟩:=k
  obtain ⟨p',tl',bx',ep',ca',ev',no'⟩:=k'
  simp only at hp h1 h2 h3 h4
  subst hp; subst h1; subst h2; subst h3; subst h4
  exact ⟨ok,I.F,I.cw,I.told,I.mail,I.hi,I.tok,fun c hc l hl he=>⟨(I.line c hc l hl he).cov,(I.line c hc l hl he).stay⟩⟩
theorem fK.put {k k':KK} (I:fK k) (ok:KK.Ok k') {c:Nat} {o:Option KC} (ho:∀ x,o = some x→x.ftold = false∧Cw x.fc) (hp:k'.p = k.p) (h1:k'.tlbs = k.tlbs) (h2:k'.boxes = k.boxes) (h3:k'.epochs = k.epochs) (h4:k'.calls = k.calls.set c o):fK k':=by
  obtain ⟨p,tl,bx,ep,ca,ev,no⟩:=k
  obtain ⟨p',tl',bx',ep',ca',ev',no'⟩:=k'
  simp only at hp h1 h2 h3 h4
  subst hp; subst h1; subst h2; subst h3; subst h4
  have back:∀ (d:Nat) x,(ca.set c o)[d]? = some (some x)→(o = some x∧d = c)∨ca[d]? = some (some x):=by
    intro d x hx
    rw [List.getElem?_set] at hx
    split at hx
    · rename_i e
      split at hx
      · exact .inl ⟨by simpa using hx,e.symm⟩
      · cases hx
    · exact .inr hx
  have backT:∀ d x,Tells ⟨p',tl',bx',ep',ca.set c o,ev',no'⟩ d x→Tells ⟨p',tl',bx',ep',ca,ev,no⟩ d x:=by
    rintro d x ⟨hx,ht⟩
    rcases back d x hx with ⟨h,_⟩ | h
    · rw [(ho x h).1] at ht; cases ht
    · exact ⟨h,ht⟩
  refine ⟨ok,I.F,fun d x hx=>?_,fun d x hx=>I.told d x (backT d x hx),fun a n ha hn=>I.mail a n (by simpa using ha) hn,I.hi,fun a ha=>I.tok a (by simpa using ha),fun a ha l hl he=>?_⟩
  · rcases back d x hx with ⟨h,_⟩ | h
    · exact (ho x h).2
    · exact I.cw d x h
  · have L:=I.line a (by simpa using ha) l hl he
    exact ⟨L.cov,fun d x hx hh=>L.stay d x (backT d x hx) hh⟩
theorem fK.move {k:KK} (I:fK k) {p':PK} (okp:PK.Ok p') (M:PK.Mv k.p p') (h:∀ c,c < k.calls.length→∀ l ∈ Tlb.lines (gG k c),0 ≤ l.fEnv→Cov (PK.q p' l.fEnv l.fPage) l∧(PK.q p' l.fEnv l.fPage).fSlot = (PK.q k.p l.fEnv l.fPage).fSlot):fK { k with p:=p' }:=by
  refine ⟨kok_p I.ok okp M.s,M.fine,I.cw,fun d x hx=>by have:=I.told d x hx; exact ⟨⟨this.1.1,by show Word.check x.fc p'.s.fEnvs = 0; rw [M.s]; exact this.1.2⟩,this.2⟩,I.mail,I.hi,I.tok,fun c hc l hl he=>?_⟩
  have L:=I.line c hc l hl he
  obtain ⟨h1,h2⟩:=h c hc l hl he
  refine ⟨h1,fun d x hx hh=>?_⟩
  show Stay p' x.fenv x.fc l.fEnv l.fPage (PK.q p' l.fEnv l.fPage).fSlot l.fRights
  rw [h2]
  refine (L.stay d x hx hh).keep (M.keep _ _ (by have:=L.cov.r; omega) (by have:=h1.r; omega)) ?_
  have e1:=I.F.ok.cl
  have e2:=M.fine.ok.cl
  rw [M.s] at e2
  omega
theorem fK.effect {k:KK} (I:fK k) {e:Int} {c:dv} (cw:Cw c) (h:Tk c→PK.off k.p e = false→Word.check c k.p.s.fEnvs = 0→∀ a,a < k.calls.length→∀ l ∈ Tlb.lines (gG k a),0 ≤ l.fEnv→Stay k.p e c l.fEnv l.fPage (PK.q k.p l.fEnv l.fPage).fSlot l.fRights):fK { k with p:=(PK.do_ k.p e c).2 }:=by
  obtain ⟨M,mono⟩:=PK.do_mv I.F (e:=e) cw
  refine I.move M.fine.ok M fun a ha l hl he=>?_
  have L:=I.line a ha l hl he
  have hne:(PK.q k.p l.fEnv l.fPage).fRights ≠ 0:=by have:=L.cov.r; omega
  by_cases ht:Tk c
  · by_cases hb:PK.off k.p e = true∨Word.check c k.p.s.fEnvs ≠ 0
    · rw [(PK.do_bad hb).1]; exact ⟨L.cov,rfl⟩
    · simp only [not_or,Bool.not_eq_true,Decidable.not_not] at hb
      rw [PK.do_q I.F cw hb.1 hb.2 ht]
      exact aft_cov ht L.cov (h ht hb.1 hb.2 a ha l hl he)
  · rw [mono ht _ _ hne]; exact ⟨L.cov,rfl⟩
theorem fK.touch {k:KK} (I:fK k) (f:Int) (c:dv):fK { k with p:=(PK.touch k.p f c).2 }:=by
  obtain ⟨M,mono⟩:=PK.mv_touch I.F f c
  refine I.move M.fine.ok M fun a ha l hl he=>?_
  have L:=I.line a ha l hl he
  rw [mono _ _ (by have:=L.cov.r; omega)]
  exact ⟨L.cov,rfl⟩
theorem fK.buf {k:KK} (I:fK k) {c:Nat} (hc:c < k.calls.length) {b:Buf} (hb:Tlb.TOk b) (h:∀ l ∈ Tlb.lines b,0 ≤ l.fEnv→LineOk k c l):fK { k with tlbs:=k.tlbs.set c b }:=by
  have hlen:k.tlbs.length = k.calls.length:=by have:=I.ok.tl; have:=I.ok.cl; omega
  have hbuf:∀ a,gG { k with tlbs:=k.tlbs.set c b } a = if a = c then b else gG k a:=by
    intro a
    simp only [gG,List.getD_eq_getElem?_getD,List.getElem?_set]
    by_cases e:c = a
    · subst e; simp [hlen,hc]
    · rw [if_neg e,if_neg (fun h=>e h.symm)]
  refine ⟨kok_tlbs I.ok _ _,I.F,I.cw,I.told,I.mail,I.hi,fun a ha=>?_,fun a ha l hl he=>?_⟩
  · rw [hbuf]; split
    · exact hb
    · exact I.tok a ha
  · rw [hbuf] at hl
    by_cases e:a = c
    · rw [if_pos e] at hl
      subst e
      have L:=h l hl he
      exact ⟨L.cov,L.stay⟩
    · rw [if_neg e] at hl
      have L:=I.line a ha l hl he
      exact ⟨L.cov,L.stay⟩
theorem clean_lines {k:KK} (hn:1 ≤ k.p.s.fEnvs∧k.p.s.fEnvs ≤ 4) (F:PK.Fine k.p) (hT:∀ x,some x ∈ k.calls→x.ftold = true→Teller k.p.s.fEnvs x) {b:Buf} (hb:Tlb.TOk b):Tlb.TOk (KK.cleans k (Tlb.lines b) b)∧∀ l ∈ Tlb.lines (KK.cleans k (Tlb.lines b) b),0 ≤ l.fEnv→l ∈ Tlb.lines b∧Cov (PK.q k.p l.fEnv l.fPage) l∧∀ x,some x ∈ k.calls→x.ftold = true→Stay k.p x.fenv x.fc l.fEnv l.fPage (PK.q k.p l.fEnv l.fPage).fSlot l.fRights:=by
  obtain ⟨h1,h2⟩:=cleans_all (k:=k) hb
  refine ⟨h1,fun l hl he=>?_⟩
  obtain ⟨a,s⟩:=h2 l hl he
  exact ⟨a,(seen_cov hn F hT _ _ _).1 (not_stale s he)⟩
theorem tells_mem {k:KK} {d:Nat} {x:KC} (h:Tells k d x):some x ∈ k.calls:=List.mem_of_getElem? h.1
theorem qI {k:KK} {c:Int} (h:KK.is k c = true):∃ n:Nat,c = n∧n < k.calls.length:=by
  unfold KK.is at h
  have:=of_decide_eq_true h
  exact ⟨c.toNat,by omega,by omega⟩
theorem kbuf_nat (k:KK) (n:Nat):KK.buf k n = gG k n:=by simp [KK.buf,gG]
theorem kcall_nat {k:KK} {n:Nat} {x:KC} (h:KK.call k n = some x):k.calls[n]? = some (some x):=by
  unfold KK.call at h
  rw [Int.toNat_natCast,List.getD_eq_getElem?_getD] at h
  cases hc:k.calls[n]? with
  | none=>rw [hc] at h; cases h
  | some o=>rw [hc] at h; simp at h; rw [h]
end Go.Proofs.YtemoifebbhoinaaGreatDoor
namespace Go.Proofs.YtemoifebbhoinaaGreatDoor
open Go Mb
theorem empty_get (pg:Int):Table.get (List.replicate 8 dp) pg = (dp,false):=by
  apply Table.get_no
  rintro ⟨h1,h2⟩
  obtain ⟨n,rfl,hn⟩:=oD h1
  have key:∀ n,n < 8→((List.replicate 8 dp).getD n dp).fRights = 0:=by decide
  apply h2
  unfold Table.at_
  rw [Int.toNat_natCast]
  exact key n hn
theorem tabFor_get (k:KK) (e pg:Int) (h:(Table.get (KK.tabFor k e pg) pg).1.fRights ≠ 0):(KK.seen k e pg).2 = true∧(Table.get (KK.tabFor k e pg) pg).1 = (KK.seen k e pg).1:=by
  unfold KK.tabFor at h ⊢
  by_cases hs:(KK.seen k e pg).2 = true
  · rw [if_pos hs] at h ⊢
    refine ⟨hs,?_⟩
    by_cases hz:(Table.insert (List.replicate 8 dp) pg (KK.seen k e pg).1).1 = 0
    · rw [Table.get_insert (by simp) _ _ hz,if_pos rfl]
    · rw [Table.insert_same _ _ hz,empty_get] at h
      exact absurd rfl h
  · rw [if_neg hs,empty_get] at h
    exact absurd rfl h
theorem walk_lines {b:Buf} (hb:Tlb.TOk b) (t:List Pte) (e pg kind:Int):Tlb.TOk (User.walk b t e pg kind).2∧∀ l ∈ Tlb.lines (User.walk b t e pg kind).2,0 ≤ l.fEnv→l ∈ Tlb.lines b∨(l = ⟨e,pg,(Table.get t pg).1.fFrame,(Table.get t pg).1.fRights⟩∧1 ≤ (Table.get t pg).1.fRights∧(Table.get t pg).1.fRights ≤ 3):=by
  unfold User.walk
  split
  · exact ⟨hb,fun l hl _=>.inl hl⟩
  · split
    · exact ⟨Tlb.tok_flush hb _ _,fun l hl he=>.inl (Tlb.lines_flush hb hl he).1⟩
    · obtain ⟨h1,h2⟩:=Tlb.tok_fill hb ⟨e,pg,(Table.get t pg).1.fFrame,(Table.get t pg).1.fRights⟩
      refine ⟨h1,fun l hl he=>?_⟩
      rcases h2 l hl he with ⟨rfl,hn⟩ | h
      · refine .inr ⟨rfl,?_⟩
        unfold Tlb.bad at hn
        have:ch (Table.get t pg).1.fRights = true:=by
          cases hm:ch (Table.get t pg).1.fRights with
          | true=>rfl
          | false=>exact absurd (.inr (.inr (.inr (.inr (.inr (.inr hm)))))) hn
        exact xn.1 this
      · exact .inl h
theorem fK.access {k:KK} (I:fK k) {c:Nat} (hc:c < k.calls.length) (x:KC):fK (KK.access k c x).2∧(KK.access k c x).2.calls = k.calls∧(KK.access k c x).2.epochs = k.epochs:=by
  unfold KK.access
  split
  · exact ⟨I,rfl,rfl⟩
  · have hw:=walk_lines (I.tok c hc) (KK.tabFor k x.fenv (IntKind.i64.wrap x.fc.e1)) x.fenv (IntKind.i64.wrap x.fc.e1) (IntKind.i64.wrap x.fc.e0)
    have I1:fK { k with tlbs:=k.tlbs.set c (KK.accWalk k c x).2 }:=by
      unfold KK.accWalk
      rw [kbuf_nat]
      refine I.buf hc hw.1 fun l hl he=>?_
      rcases hw.2 l hl he with h | ⟨rfl,h1,h2⟩
      · exact I.line c hc l h he
      · obtain ⟨s1,s2⟩:=tabFor_get k x.fenv (IntKind.i64.wrap x.fc.e1) (by omega)
        have hcov:Cov (KK.seen k x.fenv (IntKind.i64.wrap x.fc.e1)).1 (⟨x.fenv,IntKind.i64.wrap x.fc.e1,(Table.get (KK.tabFor k x.fenv (IntKind.i64.wrap x.fc.e1)) (IntKind.i64.wrap x.fc.e1)).1.fFrame,(Table.get (KK.tabFor k x.fenv (IntKind.i64.wrap x.fc.e1)) (IntKind.i64.wrap x.fc.e1)).1.fRights⟩:mE):=by
          refine ⟨?_,?_⟩
          · show (KK.seen k x.fenv (IntKind.i64.wrap x.fc.e1)).1.fFrame = (Table.get (KK.tabFor k x.fenv (IntKind.i64.wrap x.fc.e1)) (IntKind.i64.wrap x.fc.e1)).1.fFrame
            rw [s2]
          · show aV (Table.get (KK.tabFor k x.fenv (IntKind.i64.wrap x.fc.e1)) (IntKind.i64.wrap x.fc.e1)).1.fRights (KK.seen k x.fenv (IntKind.i64.wrap x.fc.e1)).1.fRights = true
            rw [← s2]; exact within_refl ⟨h1,h2⟩
        obtain ⟨a1,a2⟩:=(seen_cov I.en I.F I.tell_all _ _ _).1 ⟨s1,hcov⟩
        exact ⟨a1,fun d y hy _=>a2 y (tells_mem hy) hy.2⟩
    split
    · exact ⟨I1,rfl,rfl⟩
    · exact ⟨I1.touch _ _,rfl,rfl⟩
theorem ends_inv {k:KK} (I:fK k) {c:Nat} (x:KC) (a:fQ) (l:mE):fK (KK.ends k c x a l) :=
  I.put (kok_ends I.ok _ _ _ _) (c:=c) (o:=none) (fun _ h=>by cases h) rfl rfl rfl rfl (by simp [KK.ends])
theorem sends_box {bs:Mail.S} {f:Nat} (hf:f < bs.length) (e:Int):∀ n,n ≤ bs.length→∀ t:Nat,t < bs.length→Mail.box (Mail.sends bs f e n).2 t = if t < n∧t ≠ f then Mail.box bs t++[e] else Mail.box bs t
  | 0,_,t,_=>by rw [if_neg (by omega)]; rfl
  | n + 1,hn,t,ht=>by
    have ih:=sends_box hf e n (by omega) t ht
    have hlen:=Mail.sends_len bs f e n
    have hs:(Mail.sends bs f e (n + 1)).2 = (Mail.send (Mail.sends bs f e n).2 f n e).2:=by rw [Mail.sends]; split <;> rfl
    rw [hs]
    unfold Mail.send
    by_cases hnf:n = f
    · have hc:¬ (Mail.has (Mail.sends bs f e n).2 f = true∧Mail.has (Mail.sends bs f e n).2 n = true∧(f:Int) ≠ n):=fun h=>h.2.2 (by rw [hnf])
      rw [if_neg hc,ih]
      by_cases h1:t < n∧t ≠ f
      · rw [if_pos h1,if_pos ⟨by omega,h1.2⟩]
      · rw [if_neg h1,if_neg (by omega)]
    · have hc:Mail.has (Mail.sends bs f e n).2 f = true∧Mail.has (Mail.sends bs f e n).2 n = true∧(f:Int) ≠ n:=by
        unfold Mail.has
        rw [hlen]
        exact ⟨decide_eq_true (by omega),decide_eq_true (by omega),by omega⟩
      rw [if_pos hc]
      have hbox:∀ v,Mail.box ((Mail.sends bs f e n).2.set (n:Int).toNat v) t = if t = n then v else Mail.box (Mail.sends bs f e n).2 t:=by
        intro v
        simp only [Mail.box,Int.toNat_natCast,List.getD_eq_getElem?_getD,List.getElem?_set]
        by_cases h1:n = t
        · subst h1; simp [hlen,ht]
        · rw [if_neg h1,if_neg (fun h=>h1 h.symm)]
      rw [hbox]
      by_cases h1:t = n
      · subst h1
        rw [if_pos rfl,ih,if_neg (by omega),if_pos ⟨by omega,hnf⟩]
      · rw [if_neg h1,ih]
        by_cases h2:t < n∧t ≠ f
        · rw [if_pos h2,if_pos ⟨by omega,h2.2⟩]
        · rw [if_neg h2,if_neg (by omega)]
theorem takes_teller {p:PK} {x:KC} (h:KK.takes p x = true) (cw:Cw x.fc):Teller p.s.fEnvs x:=by
  unfold KK.takes at h
  split at h
  · cases h
  · rename_i hc
    simp only [not_or] at hc
    exact ⟨by unfold Tk; omega,by simpa using hc.1,cw⟩
theorem fK.tell {k:KK} (I:fK k) (hn:(k.epochs.1.length:Int) + 1 ≤ k.now) {c:Nat} {x:KC} (hx:KK.call k c = some x) (hi:KK.is k c = true) (ht:KK.takes k.p x = true):fK (KK.send (KK.clean (KK.tell k c x) c) c x):=by
  have hc:c < k.calls.length:=by obtain ⟨n,e,h⟩:=qI hi; omega
  have hcx:=kcall_nat hx
  have T:=takes_teller ht (I.cw c x hcx)
  have okt:KK.Ok (KK.send (KK.clean (KK.tell k c x) c) c x):=by
    refine kok_send (kok_clean (kok_call I.ok c hx (y:={ x with ftold:=true }) rfl rfl) c) hn ?_ ?_
    · exact call_set_same hx
    · unfold KK.is at hi ⊢
      show decide ((0:Int) ≤ c∧(c:Int) < ((k.calls.set (c:Int).toNat _).length:Int)) = true
      rw [List.length_set]; exact hi
  have htT:∀ y,some y ∈ (KK.tell k c x).calls→y.ftold = true→Teller k.p.s.fEnvs y:=by
    intro y hy hty
    rcases List.mem_or_eq_of_mem_set hy with h | h
    · exact I.tell_all y h hty
    · cases h; exact ⟨T.t,T.k,T.w⟩
  have hcl:=clean_lines (k:=KK.tell k c x) I.en I.F htT (b:=gG k c) (I.tok c hc)
  have hlen:k.tlbs.length = k.calls.length:=by have:=I.ok.tl; have:=I.ok.cl; omega
  have hel:k.epochs.2.length = k.calls.length:=by have:=I.ok.el; have:=I.ok.cl; omega
  have hbl:k.boxes.length = k.calls.length:=by have:=I.ok.bl; have:=I.ok.cl; omega
  have he:Epochs.begin_ k.epochs c = (((k.epochs.1.length:Int) + 1,true),(k.epochs.1++[(c:Int)],k.epochs.2)):=by
    have:Epochs.is k.epochs c = true:=by unfold Epochs.is; exact decide_eq_true (by omega)
    exact if_pos this
  have eq:(k.calls.set c (some { x with ftold:=true })).set c (some { x with ftold:=true,fepoch:=(k.epochs.1.length:Int) + 1 }) = k.calls.set c (some { x with ftold:=true,fepoch:=(k.epochs.1.length:Int) + 1 }):=List.set_set ..
  have ek:KK.send (KK.clean (KK.tell k c x) c) c x = { k with tlbs:=k.tlbs.set c (KK.cleans (KK.tell k c x) (Tlb.lines (gG k c)) (gG k c)),epochs:=(k.epochs.1++[(c:Int)],k.epochs.2),calls:=k.calls.set c (some { x with ftold:=true,fepoch:=(k.epochs.1.length:Int) + 1 }),boxes:=(Mail.sends k.boxes c ((k.epochs.1.length:Int) + 1) k.boxes.length).2 }:=by
    unfold KK.send
    have e1:(KK.clean (KK.tell k c x) c).epochs = k.epochs:=rfl
    rw [e1,he]
    unfold KK.clean
    rw [kbuf_nat]
    simp only [KK.tell,Int.toNat_natCast,eq]
    rfl
  rw [ek] at okt ⊢
  have bufs:∀ a,gG { k with tlbs:=k.tlbs.set c (KK.cleans (KK.tell k c x) (Tlb.lines (gG k c)) (gG k c)),epochs:=(k.epochs.1++[(c:Int)],k.epochs.2),calls:=k.calls.set c (some { x with ftold:=true,fepoch:=(k.epochs.1.length:Int) + 1 }),boxes:=(Mail.sends k.boxes c ((k.epochs.1.length:Int) + 1) k.boxes.length).2 } a = if a = c then KK.cleans (KK.tell k c x) (Tlb.lines (gG k c)) (gG k c) else gG k a:=by
    intro a
    simp only [gG,List.getD_eq_getElem?_getD,List.getElem?_set]
    by_cases e:c = a
    · subst e; simp [hlen,hc]
    · rw [if_neg e,if_neg (fun h=>e h.symm)]
  have back:∀ (d:Nat) y,(k.calls.set c (some { x with ftold:=true,fepoch:=(k.epochs.1.length:Int) + 1 }))[d]? = some (some y)→(y = { x with ftold:=true,fepoch:=(k.epochs.1.length:Int) + 1 }∧d = c)∨(d ≠ c∧k.calls[d]? = some (some y)):=by
    intro d y hy
    rw [List.getElem?_set] at hy
    split at hy
    · rename_i e
      exact .inl ⟨by simpa using hy.symm,e.symm⟩
    · rename_i e
      exact .inr ⟨fun h=>e h.symm,hy⟩
  refine ⟨okt,I.F,fun d y hy=>?_,fun d y hy=>?_,fun a n ha hn hne=>?_,fun a=>?_,fun a ha=>?_,fun a ha l hl hle=>?_⟩
  · rcases back d y hy with ⟨rfl,_⟩ | ⟨_,h⟩
    · exact T.w
    · exact I.cw d y h
  · rcases back d y hy.1 with ⟨rfl,rfl⟩ | ⟨_,h⟩
    · refine ⟨⟨T.t,T.k⟩,by show (1:Int) ≤ (k.epochs.1.length:Int) + 1; omega,by simp,?_⟩
      show (k.epochs.1++[(d:Int)])[((k.epochs.1.length:Int) + 1 - 1).toNat]? = some (d:Int)
      rw [show ((k.epochs.1.length:Int) + 1 - 1).toNat = k.epochs.1.length from by omega]
      simp
    · have:=I.told d y ⟨h,hy.2⟩
      refine ⟨this.1,this.2.1,by simp; omega,?_⟩
      show (k.epochs.1++[(c:Int)])[(y.fepoch - 1).toNat]? = some (d:Int)
      rw [List.getElem?_append_left (by omega)]
      exact this.2.2.2
  · have ha':a < k.calls.length:=by simpa using ha
    have hbx:=sends_box (bs:=k.boxes) (f:=c) (by omega) ((k.epochs.1.length:Int) + 1) k.boxes.length (Nat.le_refl _) a (by omega)
    show (n:Int) + 1 ≤ iE k a∨((n:Int) + 1) ∈ Mail.box (Mail.sends k.boxes c ((k.epochs.1.length:Int) + 1) k.boxes.length).2 a
    rw [hbx]
    simp only [List.length_append,List.length_singleton] at hn
    by_cases hnl:n < k.epochs.1.length
    · rw [List.getElem?_append_left hnl] at hne
      rcases I.mail a n ha' hnl hne with h | h
      · exact .inl h
      · refine .inr ?_
        split
        · exact List.mem_append_left _ h
        · exact h
    · have hn2:n = k.epochs.1.length:=by omega
      subst hn2
      have hac:a ≠ c:=by
        rintro rfl
        apply hne
        show (k.epochs.1++[(a:Int)])[k.epochs.1.length]? = _
        simp
      rw [if_pos ⟨by omega,hac⟩]
      exact .inr (by simp)
  · have:=I.hi a
    show iE k a ≤ _
    simp; omega
  · rw [bufs]; split
    · exact hcl.1
    · exact I.tok a (by simpa using ha)
  · have ha':a < k.calls.length:=by simpa using ha
    rw [bufs] at hl
    by_cases e:a = c
    · rw [if_pos e] at hl
      obtain ⟨_,c1,c2⟩:=hcl.2 l hl hle
      refine ⟨c1,fun d y hy _=>?_⟩
      rcases back d y hy.1 with ⟨rfl,_⟩ | ⟨hd,h⟩
      · exact c2 { x with ftold:=true } (by simp only [KK.tell,Int.toNat_natCast]; exact List.mem_set hc _) rfl
      · refine c2 y ?_ hy.2
        simp only [KK.tell,Int.toNat_natCast]
        exact List.mem_of_getElem? (i:=d) (by rw [List.getElem?_set,if_neg (fun h=>hd h.symm)]; exact h)
    · rw [if_neg e] at hl
      have L:=I.line a ha' l hl hle
      refine ⟨L.cov,fun d y hy hh=>?_⟩
      rcases back d y hy.1 with ⟨rfl,rfl⟩ | ⟨_,h⟩
      · exfalso
        rcases hh with hh | hh
        · exact e hh
        · have:=I.hi a
          have hh':(k.epochs.1.length:Int) + 1 ≤ iE k a:=hh
          omega
      · exact L.stay d y ⟨h,hy.2⟩ hh
end Go.Proofs.YtemoifebbhoinaaGreatDoor
namespace Go.Proofs.YtemoifebbhoinaaGreatDoor
open Go Mb
theorem waitsFrom_nil {n o:Int}:∀ {l:List Int} {i:Int},Epochs.waitsFrom n o l i = []→∀ (j:Nat) (a:Int),l[j]? = some a→o ≠ i + j→n ≤ a
  | [],_,_,j,a,h,_=>by simp at h
  | b::l,i,h,j,a,hj,ho=>by
    rw [Epochs.waitsFrom] at h
    split at h
    · cases h
    · rename_i hc
      cases j with
      | zero =>
        simp at hj ho
        subst hj
        have:¬ b < n:=fun hlt=>hc ⟨hlt,ho⟩
        omega
      | succ j=>exact waitsFrom_nil h j a (by simpa using hj) (by omega)
theorem done_heard {k:KK} {n:Int} (h:Epochs.done k.epochs n = true) {c d:Nat} (hc:c < k.epochs.2.length) (ho:k.epochs.1[(n - 1).toNat]? = some (d:Int)) (hcd:c ≠ d):n ≤ iE k c:=by
  unfold Epochs.done at h
  simp only [Bool.and_eq_true,decide_eq_true_eq] at h
  obtain ⟨⟨h1,h2⟩,h3⟩:=h
  unfold Epochs.waits at h3
  rw [if_neg (by omega)] at h3
  have hov:k.epochs.1.getD (n - 1).toNat 0 = d:=by rw [List.getD_eq_getElem?_getD,ho]; rfl
  rw [hov] at h3
  have:=waitsFrom_nil h3 c _ (List.getElem?_eq_getElem hc) (by omega)
  unfold iE
  rw [List.getD_eq_getElem?_getD,List.getElem?_eq_getElem hc]
  exact this
theorem eqb_pte {p q:Pte} (h:al.eqb p q = true):p = q:=by
  cases p; cases q
  simp [al.eqb] at h
  simp [h]
theorem no_takes_stay {k:KK} (I:fK k) {x:KC} (cw:Cw x.fc) (h:KK.takes k.p x = false) (ht:Tk x.fc) (hk:Word.check x.fc k.p.s.fEnvs = 0) {a pg:Int} {l:mE} (hc:Cov (PK.q k.p a pg) l):Stay k.p x.fenv x.fc a pg (PK.q k.p a pg).fSlot l.fRights:=by
  have hne:(PK.q k.p a pg).fRights ≠ 0:=by have:=hc.r; omega
  obtain ⟨ho,hg,hq⟩:=PK.q_on hne
  obtain ⟨b1,b2⟩:=q_slot I.F hne
  unfold KK.takes at h
  rw [if_neg (by rw [hk]; unfold Tk at ht; simp; omega)] at h
  have h1:=PK.off_iff.1 ho
  have hpg:bB pg = true:=by
    by_cases hh:bB pg = true∧(Table.at_ (PK.tab k.p a) pg).fRights ≠ 0
    · exact hh.1
    · rw [Table.get_no hh] at hg; cases hg
  obtain ⟨n,rfl,hn⟩:=oD hpg
  obtain ⟨m,rfl⟩:=Int.eq_ofNat_of_zero_le h1.1
  have hhit:KK.hits k.p x m n = false:=by
    have h2:=List.any_eq_false.1 h m (List.mem_range.2 (by omega))
    simp only [Bool.not_eq_true] at h2
    have h3:=List.any_eq_false.1 h2 n (List.mem_range.2 hn)
    simpa using h3
  unfold KK.hits at hhit
  rw [PK.pte_snd,decide_eq_true hne,Bool.true_and] at hhit
  have he:al.eqb (KK.left k.p x m n (PK.q k.p m n)) (PK.q k.p m n) = true:=by simpa [PK.q] using hhit
  have heq:KK.left k.p x m n (PK.q k.p m n) = PK.q k.p m n:=by
    exact eqb_pte he
  have L:=(left_cov (l:=l) (pg:=(n:Int)) I.en ⟨ht,hk,cw⟩ b1 b2).1
  exact (L.1 (heq.symm ▸ hc)).2
theorem fK.work {k:KK} (I:fK k) (hn:(k.epochs.1.length:Int) + 1 ≤ k.now) {c:Nat} {x:KC} (hx:KK.call k c = some x) (hi:KK.is k c = true):fK (KK.work k c x):=by
  have hc:c < k.calls.length:=by obtain ⟨n,e,h⟩:=qI hi; omega
  have hcx:=kcall_nat hx
  have cw:=I.cw c x hcx
  unfold KK.work
  split
  · exact ends_inv (I.access hc x).1 _ _ _
  · split
    · rename_i h
      exact I.tell hn hx hi h.2
    · rename_i hnt
      split
      · exact I
      · rename_i hnd
        have E:fK { k with p:=(PK.do_ k.p x.fenv x.fc).2 }:=by
          refine I.effect cw fun ht ho hk a ha l hl he=>?_
          have L:=I.line a ha l hl he
          cases hto:x.ftold with
          | false =>
            have htk:KK.takes k.p x = false:=by
              cases h:KK.takes k.p x with
              | false=>rfl
              | true=>exact absurd ⟨hto,h⟩ hnt
            exact no_takes_stay I cw htk ht hk L.cov
          | true =>
            have hd:Epochs.done k.epochs x.fepoch = true:=by
              cases h:Epochs.done k.epochs x.fepoch with
              | true=>rfl
              | false=>exact absurd ⟨hto,h⟩ hnd
            have htell:Tells k c x:=⟨hcx,hto⟩
            refine L.stay c x htell ?_
            by_cases e:a = c
            · exact .inl e
            · have hel:k.epochs.2.length = k.calls.length:=by have:=I.ok.el; have:=I.ok.cl; omega
              exact .inr (done_heard hd (by omega) (I.told c x htell).2.2.2 e)
        split
        · exact ends_inv E _ _ _
        · exact E
theorem fK.tick {k:KK} (I:fK k) (hn:k.now < 2 ^ 40):fK (KK.tick k):=I.same (kok_tick I.ok hn) rfl rfl rfl rfl rfl
theorem fK.step {k:KK} (I:fK k) (hn:k.now < 2 ^ 40) (c:Int):fK (KK.step k c).2:=by
  unfold KK.step
  split
  · exact I
  · rename_i hb
    obtain ⟨hi,x,hx⟩:=busy_is (by simpa using hb)
    rw [hx]
    obtain ⟨n,rfl,_⟩:=qI hi
    have h3:=I.ok.epn
    exact (I.tick hn).work (by show _ ≤ IntKind.i64.wrap (k.now + 1); rw [wrapN I.ok.n0 hn]; simp only [KK.tick]; omega) hx hi
theorem fK.begin {k:KK} (I:fK k) (hn:k.now < 2 ^ 40) (core env:Int) {c:dv} (cw:Cw c):fK (KK.begin_ k core env c).2:=by
  have okb:=kok_begin I.ok hn core env c
  unfold KK.begin_ at okb ⊢
  split
  · exact I
  · rename_i h
    rw [if_neg h] at okb
    exact I.put okb (c:=core.toNat) (o:=some ⟨k.events.length,env,c,false,0⟩) (fun x hx=>by cases hx; exact ⟨rfl,cw⟩) rfl rfl rfl rfl rfl
theorem fK.evict {k:KK} (I:fK k) (hn:k.now < 2 ^ 40) (c s w:Int):fK (KK.evict k c s w).2:=by
  unfold KK.evict
  split
  · exact I
  · rename_i h
    obtain ⟨n,rfl,hlt⟩:=qI (by simpa using h)
    split
    · exact I
    · have It:=I.tick hn
      rw [kbuf_nat]
      have he:=Tlb.evict_in (I.tok n hlt) s w
      exact It.buf (c:=n) hlt he.1 fun l hl h0=>It.line n hlt l (he.2 l hl h0) h0
theorem heard_set {k:KK} {e1 e2:List Int} {c:Nat} (hc:c < e2.length) (v:Int) (a:Nat) (h:k.epochs = (e1,e2.set c v)):iE k a = if a = c then v else e2.getD a 0:=by
  unfold iE
  rw [h]
  simp only [List.getD_eq_getElem?_getD,List.getElem?_set]
  by_cases e:c = a
  · subst e; simp [hc]
  · rw [if_neg e,if_neg (fun h=>e h.symm)]
theorem fK.post {k:KK} (I:fK k) (hn:k.now < 2 ^ 40) (c:Int):fK (KK.post k c).2:=by
  have okp:=kok_post I.ok hn c
  unfold KK.post at okp ⊢
  split
  · exact I
  · rename_i h
    obtain ⟨c,rfl,hlt⟩:=qI (by simpa using h)
    split
    · exact I
    · rename_i ht
      rw [if_neg h,if_neg ht] at okp
      have hel:k.epochs.2.length = k.calls.length:=by have:=I.ok.el; have:=I.ok.cl; omega
      have hbl:k.boxes.length = k.calls.length:=by have:=I.ok.bl; have:=I.ok.cl; omega
      have hlen:k.tlbs.length = k.calls.length:=by have:=I.ok.tl; have:=I.ok.cl; omega
      have htk:Mail.take k.boxes c = (((Mail.box k.boxes c).getD 0 0,true),k.boxes.set c ((Mail.box k.boxes c).drop 1))∧0 < (Mail.box k.boxes c).length:=by
        unfold Mail.take at ht ⊢
        by_cases hw:Mail.waits k.boxes c = 0
        · rw [if_pos hw] at ht; exact absurd rfl ht
        · rw [if_neg hw]
          refine ⟨by simp,?_⟩
          unfold Mail.waits at hw
          split at hw
          · omega
          · exact absurd rfl hw
      obtain ⟨htk,hpos⟩:=htk
      have hbx:=box_of I.ok.bx (c:Int)
      have hmem:(Mail.box k.boxes c).getD 0 0 ∈ Mail.box k.boxes c:=by
        rw [List.getD_eq_getElem?_getD,List.getElem?_eq_getElem hpos]
        exact List.getElem_mem hpos
      have hlo:=hbx.lo _ hmem
      have hhi:=hbx.hi _ hmem
      have hack:Epochs.ack k.epochs c ((Mail.box k.boxes c).getD 0 0) = (true,(k.epochs.1,k.epochs.2.set c (mx (iE k c) ((Mail.box k.boxes c).getD 0 0)))):=by
        unfold Epochs.ack
        rw [if_pos ⟨by unfold Epochs.is; exact decide_eq_true (by omega),by omega,by unfold Epochs.now; omega⟩]
        simp [iE]
      rw [htk] at okp ⊢
      have hcl:=clean_lines (k:=k) I.en I.F I.tell_all (b:=gG k c) (I.tok c hlt)
      have hsame:∀ (L:List mE) (b:Buf),KK.cleans { KK.tick k with boxes:=k.boxes.set c ((Mail.box k.boxes c).drop 1) } L b = KK.cleans k L b:=by
        intro L
        induction L with
        | nil=>intro b; rfl
        | cons d L ih =>
          intro b
          have hst:KK.stale { KK.tick k with boxes:=k.boxes.set c ((Mail.box k.boxes c).drop 1) } d = KK.stale k d:=rfl
          rw [KK.cleans,KK.cleans,hst,ih,ih]
      have ek:({ KK.clean { KK.tick k with boxes:=k.boxes.set c ((Mail.box k.boxes c).drop 1) } c with epochs:=(Epochs.ack k.epochs c ((Mail.box k.boxes c).getD 0 0)).2 }:KK) =
          { KK.tick k with tlbs:=k.tlbs.set c (KK.cleans k (Tlb.lines (gG k c)) (gG k c)),boxes:=k.boxes.set c ((Mail.box k.boxes c).drop 1),epochs:=(k.epochs.1,k.epochs.2.set c (mx (iE k c) ((Mail.box k.boxes c).getD 0 0))) }:=by
        rw [hack]
        unfold KK.clean
        rw [hsame]
        have:KK.buf { KK.tick k with boxes:=k.boxes.set c ((Mail.box k.boxes c).drop 1) } c = gG k c:=kbuf_nat k c
        rw [this]
        simp only [Int.toNat_natCast]
        rfl
      show fK _
      have okp':KK.Ok ({ KK.clean { KK.tick k with boxes:=k.boxes.set c ((Mail.box k.boxes c).drop 1) } c with epochs:=(Epochs.ack k.epochs c ((Mail.box k.boxes c).getD 0 0)).2 }:KK):=okp
      show fK ({ KK.clean { KK.tick k with boxes:=k.boxes.set c ((Mail.box k.boxes c).drop 1) } c with epochs:=(Epochs.ack k.epochs c ((Mail.box k.boxes c).getD 0 0)).2 }:KK)
      rw [ek] at okp' ⊢
      have hh:∀ a,iE { KK.tick k with tlbs:=k.tlbs.set c (KK.cleans k (Tlb.lines (gG k c)) (gG k c)),boxes:=k.boxes.set c ((Mail.box k.boxes c).drop 1),epochs:=(k.epochs.1,k.epochs.2.set c (mx (iE k c) ((Mail.box k.boxes c).getD 0 0))) } a = if a = c then mx (iE k c) ((Mail.box k.boxes c).getD 0 0) else iE k a:=fun a=>heard_set (c:=c) (by omega) _ a rfl
      have hbuf:∀ a,gG { KK.tick k with tlbs:=k.tlbs.set c (KK.cleans k (Tlb.lines (gG k c)) (gG k c)),boxes:=k.boxes.set c ((Mail.box k.boxes c).drop 1),epochs:=(k.epochs.1,k.epochs.2.set c (mx (iE k c) ((Mail.box k.boxes c).getD 0 0))) } a = if a = c then KK.cleans k (Tlb.lines (gG k c)) (gG k c) else gG k a:=by
        intro a
        simp only [gG,KK.tick,List.getD_eq_getElem?_getD,List.getElem?_set]
        by_cases e:c = a
        · subst e; simp [hlen,hlt]
        · rw [if_neg e,if_neg (fun h=>e h.symm)]
      have hmx:iE k c ≤ mx (iE k c) ((Mail.box k.boxes c).getD 0 0)∧(Mail.box k.boxes c).getD 0 0 ≤ mx (iE k c) ((Mail.box k.boxes c).getD 0 0)∧(mx (iE k c) ((Mail.box k.boxes c).getD 0 0) = iE k c∨mx (iE k c) ((Mail.box k.boxes c).getD 0 0) = (Mail.box k.boxes c).getD 0 0):=by unfold mx; split <;> omega
      refine ⟨okp',I.F,I.cw,I.told,fun a n ha hnn hne=>?_,fun a=>?_,fun a ha=>?_,fun a ha l hl he=>?_⟩
      · rw [hh]
        have hbox:Mail.box (k.boxes.set c ((Mail.box k.boxes c).drop 1)) a = if a = c then (Mail.box k.boxes c).drop 1 else Mail.box k.boxes a:=by
          simp only [Mail.box,Int.toNat_natCast,List.getD_eq_getElem?_getD,List.getElem?_set]
          by_cases e:c = a
          · subst e; simp [hbl,hlt]
          · rw [if_neg e,if_neg (fun h=>e h.symm)]
        show _∨_ ∈ Mail.box (k.boxes.set c ((Mail.box k.boxes c).drop 1)) a
        rw [hbox]
        have old:=I.mail a n ha hnn hne
        by_cases e:a = c
        · subst e
          rw [if_pos rfl,if_pos rfl]
          rcases old with h1 | h1
          · exact .inl (by omega)
          · cases hb:Mail.box k.boxes a with
            | nil=>rw [hb] at h1; cases h1
            | cons b bs =>
              rw [hb] at h1 hmx
              simp only [List.getD_cons_zero] at hmx
              rcases List.mem_cons.1 h1 with h2 | h2
              · exact .inl (by simp only [List.getD_cons_zero]; omega)
              · exact .inr (by simpa using h2)
        · rw [if_neg e,if_neg e]; exact old
      · rw [hh]
        have h1:=I.hi a
        have h2:=I.hi c
        split
        · show _ ≤ (k.epochs.1.length:Int); omega
        · exact h1
      · rw [hbuf]; split
        · exact hcl.1
        · exact I.tok a ha
      · rw [hbuf] at hl
        by_cases e:a = c
        · rw [if_pos e] at hl
          obtain ⟨_,c1,c2⟩:=hcl.2 l hl he
          exact ⟨c1,fun d y hy _=>c2 y (tells_mem hy) hy.2⟩
        · rw [if_neg e] at hl
          have L:=I.line a ha l hl he
          refine ⟨L.cov,fun d y hy hhe=>L.stay d y hy ?_⟩
          rcases hhe with h1 | h1
          · exact .inl h1
          · rw [hh,if_neg e] at h1; exact .inr h1
end Go.Proofs.YtemoifebbhoinaaGreatDoor
namespace Go.Proofs.YtemoifebbhoinaaGreatDoor
open Go Mb
namespace Mb
theorem least {p:Nat→Prop}:∀ (n:Nat),p n→∃ m,p m∧∀ k,p k→m ≤ k:=by
  intro n
  induction n using Nat.strongRecOn with
  | _ n ih =>
    intro hn
    by_cases h:∃ k,k < n∧p k
    · obtain ⟨k,hk,hpk⟩:=h
      exact ih k hk hpk
    · exact ⟨n,hn,fun k hk=>Nat.le_of_not_lt fun hlt=>h ⟨k,hlt,hk⟩⟩
theorem Lp.ghost {σ γ:Type} {step:(σ→Hp→Prop)→σ→Hp→Prop} (I:γ→σ→Hp→Prop) (μ:γ→Nat) {s:σ} {h:Hp} {g:γ} (h0:I g s h)
    (hs:∀ g s h,I g s h→∀ R:σ→Hp→Prop,(∀ g' s' h',I g' s' h'→μ g' < μ g→R s' h')→step R s h):Lp step s h:=by
  have mins:∀ s h,(∃ g,I g s h)→∃ m,(∃ g,I g s h∧μ g = m)∧∀ k,(∃ g,I g s h∧μ g = k)→m ≤ k:=by
    rintro s h ⟨g,hg⟩
    exact least (p:=fun m=>∃ g,I g s h∧μ g = m) (μ g) ⟨g,hg,rfl⟩
  let M:σ→Hp→Nat:=fun s h=>@dite Nat (∃ g,I g s h) (Classical.propDecidable _) (fun H=>Classical.choose (mins s h H)) (fun _=>0)
  have hM:∀ s h,(∃ g,I g s h)→(∃ g,I g s h∧μ g = M s h)∧∀ g,I g s h→M s h ≤ μ g:=by
    intro s h H
    have e:M s h = Classical.choose (mins s h H):=by
      show @dite Nat (∃ g,I g s h) (Classical.propDecidable _) _ _ = _
      rw [dif_pos H]
    have sp:=Classical.choose_spec (mins s h H)
    rw [e]
    exact ⟨sp.1,fun g hg=>sp.2 _ ⟨g,hg,rfl⟩⟩
  refine Lp.intro (fun s h=>∃ g,I g s h) M ⟨g,h0⟩ fun s h H=>?_
  obtain ⟨⟨g,hg,e⟩,_⟩:=hM s h H
  refine hs g s h hg _ fun g' s' h' hg' hlt=>⟨⟨g',hg'⟩,?_⟩
  have:=(hM s' h' ⟨g',hg'⟩).2 g' hg'
  omega
end Mb
namespace Caps
structure Sub (t o:T):Prop where
  len:t.length = o.length
  get:∀ e s,has o e s = true→get t e s = lV∨get t e s = get o e s
def more1 (o t:T) (e s:Int):Bool × T :=
  if (at_ o e s).2 = false∨(at_ t e s).2 = true then (false,t)
  else if (at_ o e s).1.fEnv < 0 then ((root t e s (at_ o e s).1.fFrame).1 == 0,(root t e s (at_ o e s).1.fFrame).2)
  else ((derive t (at_ o e s).1.fEnv (at_ o e s).1.fSlot e s (at_ o e s).1.fRights).1 == 0,(derive t (at_ o e s).1.fEnv (at_ o e s).1.fSlot e s (at_ o e s).1.fRights).2)
def moreS (o:T) (e:Nat):Nat→Bool × T→Bool × T
  | 0,st=>st
  | n + 1,st=>((moreS o e n st).1 || (more1 o (moreS o e n st).2 e n).1,(more1 o (moreS o e n st).2 e n).2)
def moreE (o:T):Nat→Bool × T→Bool × T
  | 0,st=>st
  | m + 1,st=>moreS o m 8 (moreE o m st)
def missing (o t:T) (p:Nat × Nat):Bool:=(at_ o p.1 p.2).2 && !(at_ t p.1 p.2).2
def pairs (n:Nat):List (Nat × Nat):=(List.range n).flatMap fun e=>(List.range 8).map fun s=>(e,s)
def miss (o t:T):Nat:=(pairs o.length).countP (missing o t)
theorem mem_pairs {n e s:Nat}:(e,s) ∈ pairs n↔e < n∧s < 8:=by
  unfold pairs; simp [List.mem_flatMap]
theorem countP_lt {α:Type} {P Q:α→Bool} {a:α}:∀ {l:List α},(∀ x ∈ l,Q x = true→P x = true)→a ∈ l→P a = true→Q a = false→l.countP Q < l.countP P
  | [],_,h,_,_=>by cases h
  | x::l,h1,h2,h3,h4=>by
    have le:∀ {l:List α},(∀ x ∈ l,Q x = true→P x = true)→l.countP Q ≤ l.countP P:=fun h=>List.countP_mono_left h
    rcases List.mem_cons.1 h2 with rfl | h2
    · rw [List.countP_cons_of_pos h3,List.countP_cons_of_neg (by rw [h4]; exact Bool.false_ne_true)]
      have:=le (l:=l) (fun x hx=>h1 x (by simp [hx]))
      omega
    · have ih:=countP_lt (l:=l) (fun x hx=>h1 x (by simp [hx])) h2 h3 h4
      by_cases hq:Q x = true
      · rw [List.countP_cons_of_pos hq,List.countP_cons_of_pos (h1 x (by simp) hq)]; omega
      · rw [List.countP_cons_of_neg hq]
        by_cases hpx:P x = true
        · rw [List.countP_cons_of_pos hpx]; omega
        · rw [List.countP_cons_of_neg hpx]; omega
theorem py {t:T} {e s:Int}:(at_ t e s).2 = true↔has t e s = true∧(get t e s).fRights ≠ 0:=by
  unfold at_; split
  · rename_i h; exact ⟨fun _=>h,fun _=>rfl⟩
  · rename_i h; exact ⟨fun hh=>(by cases hh),fun hh=>absurd hh h⟩
theorem at_fst {t:T} {e s:Int} (h:(at_ t e s).2 = true):(at_ t e s).1 = get t e s:=by
  have:=py.1 h
  unfold at_; rw [if_pos this]
theorem sub_has {t o:T} (h:Sub t o) (e s:Int):has t e s = has o e s:=by unfold has; rw [h.len]
theorem cap_empty {n:Int} {o:T} {c:Cap} (h:CapFine n o c) (h0:c.fRights = 0):c = lV:=by
  rcases h with h | h | h
  · exact h
  · omega
  · have:=(eL h.2.2.2.1).1; omega
theorem more1_is {n:Int} {o t:T} (hn:n ≤ 16) (ok:Ok o) (F:eK n o) (okt:Ok t) (sb:Sub t o) {e s:Int} (hh:has o e s = true) :
    (more1 o t e s = (false,t)∧((at_ o e s).2 = true→(at_ t e s).2 = true∨(0 ≤ (get o e s).fEnv∧(get t (get o e s).fEnv (get o e s).fSlot).fRights = 0))) ∨
    (more1 o t e s = (true,put t e s (get o e s))∧(get t e s).fRights = 0∧(get o e s).fRights ≠ 0∧(0 ≤ (get o e s).fEnv→has t (get o e s).fEnv (get o e s).fSlot = true∧(get t (get o e s).fEnv (get o e s).fSlot).fRights ≠ 0)):=by
  by_cases h1:(at_ o e s).2 = true
  · by_cases h2:(at_ t e s).2 = true
    · left
      exact ⟨by unfold more1; rw [if_pos (.inr h2)],fun _=>.inl h2⟩
    · have hno:¬ ((at_ o e s).2 = false∨(at_ t e s).2 = true):=by simp [h1,h2]
      have hc:=(py.1 h1).2
      have hf:=at_fst h1
      have hht:has t e s = true:=by rw [sub_has sb]; exact hh
      have h0:(get t e s).fRights = 0:=by
        by_cases hz:(get t e s).fRights = 0
        · exact hz
        · exact absurd (py.2 ⟨hht,hz⟩) h2
      rcases F e s hh with ec | ec | ec
      · rw [ec] at hc; exact absurd rfl hc
      · right
        have hneg:(get o e s).fEnv < 0:=by omega
        have er:root t e s (get o e s).fFrame = (0,put t e s (get o e s)):=by
          unfold root
          rw [if_neg (by simp [hht]; omega),if_neg (by simp [h0])]
          have:(⟨(get o e s).fFrame,3,-1,0⟩:Cap) = get o e s:=by
            obtain ⟨a1,a2,a3,_⟩:=ec
            cases hg:get o e s
            rw [hg] at a1 a2 a3
            simp_all
          rw [this]
        refine ⟨?_,h0,hc,fun hp=>absurd hp (by omega)⟩
        unfold more1
        rw [if_neg hno,hf,if_pos hneg,er]; rfl
      · have hpos:¬ (get o e s).fEnv < 0:=by omega
        obtain ⟨p1,p2⟩:=parent_has ok hh hc ec.1
        have p1t:has t (get o e s).fEnv (get o e s).fSlot = true:=by rw [sub_has sb]; exact p1
        have hw:=eL ec.2.2.2.1
        have hmay:ch (get o e s).fRights = true:=xn.2 hw.1
        by_cases hp:(get t (get o e s).fEnv (get o e s).fSlot).fRights = 0
        · left
          have ed:derive t (get o e s).fEnv (get o e s).fSlot e s (get o e s).fRights = (3,t):=by
            unfold derive
            rw [if_neg (by simp [p1t,hht,hmay]),if_pos hp]
          refine ⟨?_,fun _=>.inr ⟨ec.1,hp⟩⟩
          unfold more1
          rw [if_neg hno,hf,if_neg hpos,ed]; rfl
        · right
          have eg:get t (get o e s).fEnv (get o e s).fSlot = get o (get o e s).fEnv (get o e s).fSlot:=by
            rcases sb.get _ _ p1 with h | h
            · rw [h] at hp; exact absurd rfl hp
            · exact h
          have ed:derive t (get o e s).fEnv (get o e s).fSlot e s (get o e s).fRights = (0,put t e s (get o e s)):=by
            unfold derive
            rw [if_neg (by simp [p1t,hht,hmay]),if_neg hp,if_neg (by simp [h0]),eg,if_neg (by simp [ec.2.2.2.1]),ec.2.2.2.2]
          refine ⟨?_,h0,hc,fun _=>⟨p1t,hp⟩⟩
          unfold more1
          rw [if_neg hno,hf,if_neg hpos,ed]; rfl
  · left
    exact ⟨by unfold more1; rw [if_pos (.inl (by simpa using h1))],fun h=>absurd h h1⟩
structure Way (o t0 t:T) (b:Bool) (D:Nat→Nat→Prop):Prop where
  ok:Ok t
  sub:Sub t o
  same:b = false→t = t0
  no:b = false→∀ e s:Nat,D e s→(more1 o t0 e s).1 = false
  le:miss o t ≤ miss o t0
  lt:b = true→miss o t < miss o t0
theorem way_step {n:Int} {o t0 t:T} {b:Bool} {D:Nat→Nat→Prop} (hn:n ≤ 16) (ok:Ok o) (F:eK n o) (w:Way o t0 t b D) {e s:Nat} (he:e < o.length) (hs:s < 8) :
    Way o t0 (more1 o t e s).2 (b || (more1 o t e s).1) (fun a i=>D a i∨(a = e∧i = s)):=by
  have hh:has o e s = true:=has_of he hs
  have hht:has t e s = true:=by rw [sub_has w.sub]; exact hh
  rcases more1_is hn ok F w.ok w.sub hh with ⟨e1,h1⟩ | ⟨e1,h0,hc,hp⟩
  · rw [e1,Bool.or_false]
    refine ⟨w.ok,w.sub,w.same,fun hb a i hd=>?_,w.le,w.lt⟩
    rcases hd with hd | ⟨rfl,rfl⟩
    · exact w.no hb a i hd
    · have:=w.same hb
      rw [← this,e1]
  · rw [e1,Bool.or_true]
    have gp:∀ a i,has o a i = true→get (put t e s (get o e s)) a i = if a = e∧i = s then get o e s else get t a i:=fun a i hai=>get_put w.ok.row hht (by rw [sub_has w.sub]; exact hai) _
    have hlt:miss o (put t e s (get o e s)) < miss o t:=by
      unfold miss
      refine countP_lt (a:=(e,s)) (fun q hq hm=>?_) (mem_pairs.2 ⟨he,hs⟩) ?_ ?_
      · unfold missing at hm ⊢
        rw [Bool.and_eq_true] at hm ⊢
        refine ⟨hm.1,?_⟩
        have hq':=(py.1 hm.1).1
        have hm2:¬ (at_ (put t e s (get o e s)) q.1 q.2).2 = true:=by simpa using hm.2
        have:¬ (at_ t q.1 q.2).2 = true:=by
          intro hat
          apply hm2
          have h3:=py.1 hat
          refine py.2 ⟨by rw [put_has]; exact h3.1,?_⟩
          rw [gp _ _ hq']
          split
          · exact hc
          · exact h3.2
        simpa using this
      · unfold missing
        have a1:(at_ o e s).2 = true:=py.2 ⟨hh,hc⟩
        have a2:(at_ t e s).2 = false:=by
          cases hat:(at_ t e s).2 with
          | false=>rfl
          | true=>exact absurd h0 (py.1 hat).2
        simp only [a1,a2]; rfl
      · unfold missing
        have a2:(at_ (put t e s (get o e s)) e s).2 = true:=py.2 ⟨by rw [put_has]; exact hht,by rw [gp _ _ hh,if_pos ⟨rfl,rfl⟩]; exact hc⟩
        simp only [a2]; simp
    refine ⟨ok_put w.ok hht h0 _ hp,⟨by rw [put_len]; exact w.sub.len,fun a i hai=>?_⟩,fun h=>(by cases h),fun h=>(by cases h),Nat.le_of_lt (Nat.lt_of_lt_of_le hlt w.le),fun _=>Nat.lt_of_lt_of_le hlt w.le⟩
    rw [gp a i hai]
    split
    · rename_i hai2; obtain ⟨rfl,rfl⟩:=hai2; exact .inr rfl
    · exact w.sub.get a i hai
theorem way_mono {o t0 t:T} {b:Bool} {D D':Nat→Nat→Prop} (w:Way o t0 t b D) (h:∀ e s,D' e s→D e s):Way o t0 t b D':=⟨w.ok,w.sub,w.same,fun hb e s hd=>w.no hb e s (h e s hd),w.le,w.lt⟩
theorem way_row {n:Int} {o t0 t:T} {b:Bool} {e:Nat} (hn:n ≤ 16) (ok:Ok o) (F:eK n o) (he:e < o.length) (w:Way o t0 t b (fun a i=>a < e∧i < 8)):∀ j,j ≤ 8→Way o t0 (moreS o e j (b,t)).2 (moreS o e j (b,t)).1 (fun a i=>a < e∧i < 8∨a = e∧i < j)
  | 0,_=>way_mono w fun a i h=>by rcases h with h | h; exact h; omega
  | j + 1,hj=>by
    have:=way_step hn ok F (way_row hn ok F he w j (by omega)) he (s:=j) (by omega)
    exact way_mono this fun a i h=>by
      rcases h with h | h
      · exact .inl (.inl h)
      · by_cases e1:i = j
        · exact .inr ⟨h.1,e1⟩
        · exact .inl (.inr ⟨h.1,by omega⟩)
theorem way_all {n:Int} {o t:T} (hn:n ≤ 16) (ok:Ok o) (F:eK n o) (okt:Ok t) (sb:Sub t o):∀ m,m ≤ o.length→Way o t (moreE o m (false,t)).2 (moreE o m (false,t)).1 (fun a i=>a < m∧i < 8)
  | 0,_=>⟨okt,sb,fun _=>rfl,fun _ e s h=>(by omega),Nat.le_refl _,fun h=>(by cases h)⟩
  | m + 1,hm=>by
    have:=way_row hn ok F (e:=m) (by omega) (way_all hn ok F okt sb m (by omega)) 8 (Nat.le_refl _)
    exact way_mono this fun a i h=>by
      by_cases e1:a = m
      · exact .inr ⟨e1,h.2⟩
      · exact .inl ⟨by omega,h.2⟩
theorem all_there {n:Int} {o t:T} (hn:n ≤ 16) (ok:Ok o) (F:eK n o) (okt:Ok t) (sb:Sub t o) (hno:∀ e s:Nat,e < o.length→s < 8→(more1 o t e s).1 = false):t = o:=by
  obtain ⟨rank,hr⟩:=ok.rk
  have key:∀ (r:Nat) (e s:Nat),e < o.length→s < 8→rank e s ≤ r→get t e s = get o e s:=by
    intro r
    induction r using Nat.strongRecOn with
    | _ r ih =>
      intro e s he hs hrk
      have hh:has o e s = true:=has_of he hs
      by_cases hz:(get o e s).fRights = 0
      · have e0:=cap_empty (F e s hh) hz
        rcases sb.get e s hh with h | h
        · rw [h,e0]
        · exact h
      · rcases more1_is hn ok F okt sb hh with ⟨e1,h1⟩ | ⟨e1,_⟩
        · rcases h1 (py.2 ⟨hh,hz⟩) with h2 | ⟨h2,h3⟩
          · rcases sb.get e s hh with h | h
            · have:=(py.1 h2).2; rw [h] at this; exact absurd rfl this
            · exact h
          · exfalso
            obtain ⟨q1,q2,q3⟩:=hr e s hh hz h2
            obtain ⟨a,i,ea,ei,ha,hi⟩:=has_nat q1
            rw [ea,ei] at q2 q3 h3
            have:=ih (rank a i) (by omega) a i ha hi (Nat.le_refl _)
            rw [this] at h3; exact q2 h3
        · have:=hno e s he hs
          rw [e1] at this; cases this
  apply List.ext_getElem?
  intro m
  by_cases hm:m < o.length
  · have hmt:m < t.length:=by rw [sb.len]; exact hm
    rw [List.getElem?_eq_getElem hm,List.getElem?_eq_getElem hmt]
    congr 1
    have l1:=ok.row _ (List.getElem_mem hm)
    have l2:=okt.row _ (List.getElem_mem hmt)
    apply List.ext_getElem (by rw [l1,l2])
    intro s h1 h2
    have hs:s < 8:=by omega
    obtain ⟨_,g1⟩:=get_nat' ok.row hm hs
    obtain ⟨_,g2⟩:=get_nat' okt.row hmt hs
    rw [← g1,← g2]
    exact key _ m s hm hs (Nat.le_refl _)
  · have hmt:¬ m < t.length:=by rw [sb.len]; exact hm
    rw [List.getElem?_eq_none (Nat.le_of_not_lt hm),List.getElem?_eq_none (Nat.le_of_not_lt hmt)]
end Caps
end Go.Proofs.YtemoifebbhoinaaGreatDoor
