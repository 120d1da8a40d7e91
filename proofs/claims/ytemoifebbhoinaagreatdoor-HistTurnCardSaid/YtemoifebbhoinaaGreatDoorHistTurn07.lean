/- Part of the proof of: The law HistTurn returns true for every input, and leaves its arguments as they were. -/
import Derived.Test.YtemoifebbhoinaaGreatDoorHistTurn06
set_option linter.all false
set_option maxRecDepth 20000
namespace Go.Proofs.YtemoifebbhoinaaGreatDoor
open Go Mb
namespace PK
theorem goers_frame {k:PK} (F:Fine k) {e s:Int} {w:Bool} (h:Caps.has k.caps e s = true) (hn:(Caps.get k.caps e s).fRights ≠ 0) {p:bY} (hp:p ∈ Caps.goers k.caps e s w):(Caps.get k.caps p.fEnv p.fSlot).fFrame = (Caps.get k.caps e s).fFrame:=by
  obtain ⟨h1,h2,h3⟩:=(Caps.mem_goers F.ok.tree h hn).1 hp
  rcases h3 with ⟨_,rfl⟩ | h3
  · rfl
  · exact Caps.under_frame F.ok.tree F.ok.fine _ _ _ (Nat.le_refl _) h1 _ h3
theorem revoke_eq {k:PK} (F:Fine k) {e s:Int} {w:Bool} (h:Caps.has k.caps e s = true) (hn:(Caps.get k.caps e s).fRights ≠ 0) :
    revoke k e s w = (⟨0,IntKind.u64.wrap (Caps.goers k.caps e s w).length⟩,gone { k with caps:=Caps.empties k.caps (Caps.goers k.caps e s w) } (Caps.get k.caps e s).fFrame (Caps.goers k.caps e s w)):=by
  have hlook:Caps.look k.caps e s = 0:=by unfold Caps.look; rw [if_neg (by rw [h]; simp),if_neg hn]
  have hrv:Caps.revoke k.caps e s = ((Caps.below k.caps e s,0),Caps.empties k.caps (Caps.below k.caps e s)):=by unfold Caps.revoke; rw [if_neg (by rw [hlook]; simp)]
  unfold revoke
  rw [hrv,if_neg (by simp),at_of h hn]
  cases w with
  | true =>
    rw [if_pos rfl]
    simp only [Caps.drop_after F.ok.tree h hn]
    unfold Caps.goers
    rw [if_pos rfl]
  | false =>
    rw [if_neg Bool.false_ne_true]
    unfold Caps.goers
    rw [if_neg Bool.false_ne_true]
theorem revoke_no {k:PK} {e s:Int} {w:Bool} (h:Caps.has k.caps e s = true) (hn:(Caps.get k.caps e s).fRights = 0):revoke k e s w = (⟨3,0⟩,k):=by
  have hlook:Caps.look k.caps e s = 3:=by unfold Caps.look; rw [if_neg (by rw [h]; simp),if_pos hn]
  have hrv:Caps.revoke k.caps e s = (([],3),k.caps):=by unfold Caps.revoke; rw [if_pos (by rw [hlook]; simp),hlook]
  unfold revoke
  rw [hrv,if_pos (by simp)]
theorem revoke_q {k:PK} (F:Fine k) {e s:Int} {w:Bool} (h:Caps.has k.caps e s = true) (hn:(Caps.get k.caps e s).fRights ≠ 0) (a pg:Int) :
    q (revoke k e s w).2 a pg = if (q k a pg).fRights ≠ 0∧(⟨a,(q k a pg).fSlot⟩:bY) ∈ Caps.goers k.caps e s w then dp else q k a pg:=by
  rw [revoke_eq F h hn]
  have ok1:=ok_caps F.ok (t:=Caps.empties k.caps (Caps.goers k.caps e s w)) (Caps.empties_len _ _) (Caps.ok_empties F.ok.tree (Caps.goers_has F.ok.tree h hn) (Caps.goers_cl F.ok.tree h hn)) (Caps.fine_empties F.ok.tree F.ok.fine (Caps.goers_has F.ok.tree h hn) (Caps.goers_cl F.ok.tree h hn))
  exact gone_q _ ok1 _ (fun p hp=>((xu F.ok).1 (Caps.goers_has F.ok.tree h hn p hp)).1) a pg
theorem mv_revoke {k:PK} (F:Fine k) {e s:Int} {w:Bool} (h:Caps.has k.caps e s = true):Mv k (revoke k e s w).2:=by
  by_cases hn:(Caps.get k.caps e s).fRights = 0
  · rw [revoke_no h hn]; exact .refl F
  have okr:=ok_revoke F.ok e s w
  have hq:=revoke_q F (w:=w) h hn
  rw [revoke_eq F h hn] at okr hq ⊢
  have hgs:=gone_same (Caps.goers k.caps e s w) { k with caps:=Caps.empties k.caps (Caps.goers k.caps e s w) } (Caps.get k.caps e s).fFrame
  have hcl:=Caps.goers_cl F.ok.tree (w:=w) h hn
  have hhas:=Caps.goers_has F.ok.tree (w:=w) h hn
  have hcaps:(gone { k with caps:=Caps.empties k.caps (Caps.goers k.caps e s w) } (Caps.get k.caps e s).fFrame (Caps.goers k.caps e s w)).caps = Caps.empties k.caps (Caps.goers k.caps e s w):=hgs.1
  have hss:(gone { k with caps:=Caps.empties k.caps (Caps.goers k.caps e s w) } (Caps.get k.caps e s).fFrame (Caps.goers k.caps e s w)).s = k.s:=hgs.2.1
  have keep:∀ a pg,(q k a pg).fRights ≠ 0→(⟨a,(q k a pg).fSlot⟩:bY) ∉ Caps.goers k.caps e s w→Caps.Keep k.caps (Caps.empties k.caps (Caps.goers k.caps e s w)) a (q k a pg).fSlot:=fun a pg h1 h2=>by
    obtain ⟨b1,b2,b3⟩:=F.by_ a pg h1
    exact Caps.keep_empties F.ok.tree hhas hcl b1 (by have:=(eL b3).2; omega) h2
  refine ⟨⟨okr,fun a pg hne=>?_,fun f f0 f1=>?_⟩,hss,fun a pg h1 h2=>?_⟩
  · simp only at hne ⊢
    rw [hcaps]
    have hq':q (gone { k with caps:=Caps.empties k.caps (Caps.goers k.caps e s w) } (Caps.get k.caps e s).fFrame (Caps.goers k.caps e s w)) a pg = _:=hq a pg
    rw [hq'] at hne ⊢
    split at hne
    · exact absurd rfl hne
    · rename_i hc
      rw [if_neg hc]
      obtain ⟨b1,b2,b3⟩:=F.by_ a pg hne
      have:=(keep a pg hne (fun hm=>hc ⟨hne,hm⟩)).g
      rw [this]
      exact ⟨by rw [Caps.empties_has]; exact b1,b2,b3⟩
  · simp only at f1 ⊢
    rw [hss] at f1
    rw [hcaps]
    have hfr:=fine_frame F.ok.fine h hn
    have hcnt:=Caps.cnt_empties f (Caps.goers k.caps e s w) F.ok.tree.row (Caps.goers_nd F.ok.tree h) (fun p hp=>⟨hhas p hp,((Caps.mem_goers F.ok.tree h hn).1 hp).2.1⟩)
    have hcnt0:=Caps.cnt_empties (Caps.get k.caps e s).fFrame (Caps.goers k.caps e s w) F.ok.tree.row (Caps.goers_nd F.ok.tree h) (fun p hp=>⟨hhas p hp,((Caps.mem_goers F.ok.tree h hn).1 hp).2.1⟩)
    have hall:(Caps.goers k.caps e s w).countP (fun p=>decide ((Caps.get k.caps p.fEnv p.fSlot).fFrame = (Caps.get k.caps e s).fFrame)) = (Caps.goers k.caps e s w).length:=by
      rw [List.countP_eq_length]
      intro p hp
      simp [goers_frame F h hn hp]
    rw [hall] at hcnt0
    have hnum0:=F.num _ hfr.1 hfr.2
    have hp:=gone_pool (Caps.goers k.caps e s w) (k:={ k with caps:=Caps.empties k.caps (Caps.goers k.caps e s w) }) (Caps.get k.caps e s).fFrame F.ok.pr (by show _ ≤ Pool.refs k.pool _; rw [hnum0]; omega) f f0
    rw [hp]
    by_cases e1:f = (Caps.get k.caps e s).fFrame
    · rw [if_pos e1]
      subst e1
      show Pool.refs k.pool _ - _ = _
      rw [hnum0]; omega
    · rw [if_neg e1]
      have hz:(Caps.goers k.caps e s w).countP (fun p=>decide ((Caps.get k.caps p.fEnv p.fSlot).fFrame = f)) = 0:=by
        rw [List.countP_eq_zero]
        intro p hp
        rw [goers_frame F h hn hp]
        simp; exact fun h=>e1 h.symm
      rw [hz] at hcnt
      show Pool.refs k.pool f = _
      rw [F.num f f0 f1]; omega
  · simp only at h2 ⊢
    rw [hcaps]
    have hq':q (gone { k with caps:=Caps.empties k.caps (Caps.goers k.caps e s w) } (Caps.get k.caps e s).fFrame (Caps.goers k.caps e s w)) a pg = _:=hq a pg
    rw [hq'] at h2
    split at h2
    · exact absurd rfl h2
    · rename_i hc
      exact keep a pg h1 (fun hm=>hc ⟨h1,hm⟩)
theorem mv_tabs {k k':PK} (F:Fine k) (ok':PK.Ok k') (hs:k'.s = k.s) (hc:k'.caps = k.caps) (hp:k'.pool = k.pool) (h:∀ a pg,(q k' a pg).fRights ≠ 0→Caps.has k.caps a (q k' a pg).fSlot = true∧(Caps.get k.caps a (q k' a pg).fSlot).fFrame = (q k' a pg).fFrame∧aV (q k' a pg).fRights (Caps.get k.caps a (q k' a pg).fSlot).fRights = true):Mv k k' :=
  ⟨⟨ok',fun a pg hne=>by rw [hc]; exact h a pg hne,fun f f0 f1=>by rw [hc,hp]; exact F.num f f0 (by rw [← hs]; exact f1)⟩,hs,fun a pg _ _=>by rw [hc]; exact Caps.Keep.refl _ _ _⟩
theorem mv_maps {k:PK} (F:Fine k) {e pg s r:Int} (he:off k e = false) (h:Caps.has k.caps e s = true):Mv k (maps k e pg s r).2∧Mono k (maps k e pg s r).2:=by
  have okm:=ok_maps F.ok e pg s r
  unfold maps at okm ⊢
  split
  · exact ⟨.refl F,.refl k⟩
  · rename_i h1
    rw [if_neg h1] at okm
    split
    · exact ⟨.refl F,.refl k⟩
    · rename_i h2
      rw [if_neg h2] at okm
      split
      · exact ⟨.refl F,.refl k⟩
      · rename_i h3
        rw [if_neg h3] at okm
        have hc:(Caps.get k.caps e s).fRights ≠ 0:=((py _ _ _).1 (by simpa using h1)).2
        rw [at_of h hc] at okm h3 ⊢
        have hl:=(tab_in F.ok he).2
        have hg0:(Table.get (tab k e) pg).2 = false:=by simpa using h2
        have key:∀ a p,q { k with tabs:=k.tabs.set e.toNat (Table.insert (tab k e) pg ⟨(Caps.get k.caps e s).fFrame,s,r⟩).2 } a p = q k a p∨((a = e∧p = pg)∧q { k with tabs:=k.tabs.set e.toNat (Table.insert (tab k e) pg ⟨(Caps.get k.caps e s).fFrame,s,r⟩).2 } a p = ⟨(Caps.get k.caps e s).fFrame,s,r⟩):=by
          intro a p
          rw [q_tabs F.ok he]
          by_cases ha:a = e
          · subst ha
            rw [if_pos rfl]
            by_cases hz:(Table.insert (tab k a) pg ⟨(Caps.get k.caps a s).fFrame,s,r⟩).1 = 0
            · rw [Table.get_insert hl _ _ hz]
              by_cases hp:p = pg
              · subst hp
                rw [if_pos rfl]
                exact .inr ⟨⟨rfl,rfl⟩,rfl⟩
              · rw [if_neg hp,uz he]; exact .inl rfl
            · rw [Table.insert_same _ _ hz,uz he]; exact .inl rfl
          · rw [if_neg ha]; exact .inl rfl
        refine ⟨mv_tabs F okm rfl rfl rfl fun a p hne=>?_,fun a p hne=>?_⟩
        · simp only at hne ⊢
          rcases key a p with e1 | ⟨⟨rfl,rfl⟩,e1⟩
          · rw [e1] at hne ⊢; exact F.by_ a p hne
          · rw [e1]
            exact ⟨h,rfl,by simpa using h3⟩
        · simp only
          rcases key a p with e1 | ⟨⟨rfl,rfl⟩,e1⟩
          · exact e1
          · exfalso
            rw [uz he] at hne
            rw [Table.get_snd] at hg0
            exact hne (by simpa using hg0)
theorem remove_q {k:PK} (ok:PK.Ok k) {e pg:Int} (he:off k e = false) (a p:Int):q (remove k e pg).2 a p = if e = a∧pg = p then dp else q k a p:=by
  unfold remove
  show q { k with tabs:=k.tabs.set e.toNat (Table.remove (tab k e) pg).2 } a p = _
  rw [q_tabs ok he]
  by_cases ha:a = e
  · subst ha
    rw [if_pos rfl,Table.get_remove (tab_in ok he).2]
    by_cases hp:p = pg
    · subst hp; rw [if_pos rfl,if_pos ⟨rfl,rfl⟩]
    · rw [if_neg hp,if_neg (fun h=>hp h.2.symm),uz he]
  · rw [if_neg ha,if_neg (fun h=>ha h.1.symm)]
theorem mv_remove {k:PK} (F:Fine k) {e pg:Int} (he:off k e = false):Mv k (remove k e pg).2:=by
  refine mv_tabs F (ok_remove F.ok e pg) rfl rfl rfl fun a p hne=>?_
  rw [remove_q F.ok he] at hne ⊢
  split at hne
  · exact absurd rfl hne
  · rename_i hc; rw [if_neg hc]; exact F.by_ a p hne
def mayP (k:PK) (e pg r:Int):Prop:=(q k e pg).fRights ≠ 0∧aV r (Caps.get k.caps e (q k e pg).fSlot).fRights = true
instance (k:PK) (e pg r:Int):Decidable (mayP k e pg r):=by unfold mayP; infer_instance
theorem protect_q {k:PK} (F:Fine k) {e pg r:Int} (he:off k e = false) (a p:Int):q (protect k e pg r).2 a p = if (e = a∧pg = p)∧mayP k e pg r then { q k a p with fRights:=r } else q k a p:=by
  unfold protect
  by_cases h1:(Table.get (tab k e) pg).2 = false
  · rw [if_pos h1,if_neg]
    rintro ⟨_,h2,_⟩
    rw [uz he] at h2
    rw [Table.get_snd] at h1
    exact h2 (by simpa using h1)
  · rw [if_neg h1]
    have h1':(Table.get (tab k e) pg).2 = true:=by simpa using h1
    have hq:(q k e pg).fRights ≠ 0:=by rw [uz he]; rw [Table.get_snd] at h1'; simpa using h1'
    have hb:=F.by_ e pg hq
    rw [uz he] at hb
    have hat:=at_of hb.1 (by have:=(eL hb.2.2).2; omega)
    rw [hat]
    by_cases h2:aV r (Caps.get k.caps e (Table.get (tab k e) pg).1.fSlot).fRights = false
    · rw [if_pos h2,if_neg]
      rintro ⟨_,_,h3⟩
      rw [uz he,h2] at h3; cases h3
    · rw [if_neg h2]
      have h2':aV r (Caps.get k.caps e (Table.get (tab k e) pg).1.fSlot).fRights = true:=by simpa using h2
      show q { k with tabs:=k.tabs.set e.toNat (Table.protect (tab k e) pg r).2 } a p = _
      have hm:mayP k e pg r:=⟨hq,by rw [uz he]; exact h2'⟩
      have hr:ch r = true:=by have:=(eL h2').1; exact xn.2 this
      rw [q_tabs F.ok he]
      by_cases ha:a = e
      · subst ha
        rw [if_pos rfl,Table.get_protect (tab_in F.ok he).2 _ _ _ h1' hr]
        by_cases hp:p = pg
        · subst hp; rw [if_pos rfl,if_pos ⟨⟨rfl,rfl⟩,hm⟩,uz he]
        · rw [if_neg hp,if_neg (fun h=>hp h.1.2.symm),uz he]
      · rw [if_neg ha,if_neg (fun h=>ha h.1.1.symm)]
theorem mv_protect {k:PK} (F:Fine k) {e pg r:Int} (he:off k e = false):Mv k (protect k e pg r).2:=by
  have hcp:(protect k e pg r).2.caps = k.caps∧(protect k e pg r).2.s = k.s∧(protect k e pg r).2.pool = k.pool:=by
    unfold protect
    split
    · exact ⟨rfl,rfl,rfl⟩
    · split <;> exact ⟨rfl,rfl,rfl⟩
  refine mv_tabs F (ok_protect F.ok e pg r) hcp.2.1 hcp.1 hcp.2.2 fun a p hne=>?_
  rw [protect_q F he] at hne ⊢
  split at hne
  · rename_i hc
    obtain ⟨⟨rfl,rfl⟩,h1,h2⟩:=hc
    rw [if_pos ⟨⟨rfl,rfl⟩,h1,h2⟩]
    have hb:=F.by_ e pg h1
    exact ⟨hb.1,hb.2.1,h2⟩
  · rename_i hc; rw [if_neg hc]; exact F.by_ a p hne
theorem mv_touch {k:PK} (F:Fine k) (f:Int) (c:dv):Mv k (touch k f c).2∧Mono k (touch k f c).2:=by
  have h:=touch_same k f c
  have qs:=q_same h.2.1 h.2.2.2
  exact ⟨⟨fine_touch F f c,h.2.2.2,fun a pg _ _=>by rw [h.1]; exact Caps.Keep.refl _ _ _⟩,fun a pg _=>qs a pg⟩
theorem mv_user {k:PK} (F:Fine k) (e:Int) (c:dv):Mv k (user k e c).2∧Mono k (user k e c).2:=by
  unfold user
  split
  · exact ⟨.refl F,.refl k⟩
  · exact mv_touch F _ _
end PK
end Go.Proofs.YtemoifebbhoinaaGreatDoor
namespace Go.Proofs.YtemoifebbhoinaaGreatDoor
open Go Mb
def Tk (c:dv):Prop:=c.e0 = 4∨c.e0 = 5∨c.e0 = 7∨c.e0 = 8
instance (c:dv):Decidable (Tk c):=by unfold Tk; infer_instance
namespace PK
def gz (k:PK) (e:Int) (c:dv) (a s:Int):Bool :=
  if c.e0 = 5∧a = e∧s = c.e1 then true else if Caps.has k.caps a s = true then Caps.under k.caps (Caps.get k.caps a s) ⟨e,c.e1⟩ else false
def aft (k:PK) (e:Int) (c:dv) (a pg:Int):Pte :=
  if c.e0 = 7 then (if e = a∧c.e1 = pg then dp else q k a pg)
  else if c.e0 = 8 then (if (e = a∧c.e1 = pg)∧mayP k e pg c.e2 then { q k a pg with fRights:=c.e2 } else q k a pg)
  else if (q k a pg).fRights ≠ 0∧gz k e c a (q k a pg).fSlot = true then dp else q k a pg
theorem envs_of {k:PK} (ok:PK.Ok k):1 ≤ k.s.fEnvs∧k.s.fEnvs ≤ 4:=by have:=fV.1 ok.sz; omega
theorem do_bad {k:PK} {e:Int} {c:dv} (h:off k e = true∨Word.check c k.s.fEnvs ≠ 0):(do_ k e c).2 = k∧(do_ k e c).1.2 = true∧(do_ k e c).1.1 = ⟨if off k e = true then 10 else Word.check c k.s.fEnvs,0⟩:=by
  unfold do_
  by_cases h1:off k e = true
  · rw [if_pos h1,if_pos h1]; exact ⟨rfl,rfl,rfl⟩
  · rw [if_neg h1,if_neg h1,if_pos (h.resolve_left h1)]; exact ⟨rfl,rfl,rfl⟩
theorem do_good {k:PK} {e:Int} {c:dv} (h1:off k e = false) (h2:Word.check c k.s.fEnvs = 0):do_ k e c = does k e c:=by
  unfold do_; rw [if_neg (by rw [h1]; simp),if_neg (by rw [h2]; simp)]
theorem w0 {n:Int} {c:dv} (w:Well n c):IntKind.i64.wrap c.e0 = c.e0:=bP (by have:=w.kind; omega) (by have:=w.kind; omega)
theorem gz_goers {k:PK} (F:Fine k) {e:Int} {c:dv} (hc:c.e0 = 4∨c.e0 = 5) (h:Caps.has k.caps e c.e1 = true) (hn:(Caps.get k.caps e c.e1).fRights ≠ 0) {a s:Int} (ha:Caps.has k.caps a s = true) (hr:(Caps.get k.caps a s).fRights ≠ 0) :
    gz k e c a s = true↔(⟨a,s⟩:bY) ∈ Caps.goers k.caps e c.e1 (decide (c.e0 = 5)):=by
  rw [Caps.mem_goers F.ok.tree h hn]
  unfold gz
  rw [if_pos ha]
  by_cases h5:c.e0 = 5∧a = e∧s = c.e1
  · rw [if_pos h5]
    obtain ⟨h51,rfl,rfl⟩:=h5
    simp [h51,ha,hr]
  · rw [if_neg h5]
    constructor
    · exact fun hu=>⟨ha,hr,.inr hu⟩
    · rintro ⟨_,_,⟨h1,h2⟩ | h1⟩
      · exact absurd ⟨of_decide_eq_true h1,congrArg aH.fEnv h2,congrArg aH.fSlot h2⟩ h5
      · exact h1
theorem gz_empty {k:PK} (F:Fine k) {e:Int} {c:dv} (hn:(Caps.get k.caps e c.e1).fRights = 0) {a s:Int} (ha:Caps.has k.caps a s = true) (hr:(Caps.get k.caps a s).fRights ≠ 0):gz k e c a s = false:=by
  unfold gz
  rw [if_neg,if_pos ha]
  · exact Caps.under_empty F.ok.tree (p:=⟨e,c.e1⟩) hn _ a s (Nat.le_refl _) ha
  · rintro ⟨_,rfl,rfl⟩
    exact hr hn
theorem does_revoke {k:PK} {e:Int} {c:dv} (w:Well k.s.fEnvs c) (cw:Cw c) (hc:c.e0 = 4∨c.e0 = 5):does k e c = (((revoke k e c.e1 (decide (c.e0 = 5))).1,true),(revoke k e c.e1 (decide (c.e0 = 5))).2):=by
  have h1:IntKind.i64.wrap c.e1 = c.e1:=kwr cw.c1 (by have:=w.w1 (by omega); omega)
  unfold does
  rw [w0 w,h1]
  rcases hc with h | h <;> simp [h]
theorem do_q {k:PK} (F:Fine k) {e:Int} {c:dv} (cw:Cw c) (he:off k e = false) (hk:Word.check c k.s.fEnvs = 0) (ht:Tk c) (a pg:Int):q (do_ k e c).2 a pg = aft k e c a pg:=by
  have w:=well_of (envs_of F.ok).1 (envs_of F.ok).2 hk
  have h1:IntKind.i64.wrap c.e1 = c.e1:=kwr cw.c1 (by have:=w.w1 (by unfold Tk at ht; omega); omega)
  rw [do_good he hk]
  have h45:c.e0 = 4∨c.e0 = 5→q (does k e c).2 a pg = aft k e c a pg:=by
    intro h
    rw [does_revoke w cw h]
    unfold aft
    rw [if_neg (by omega),if_neg (by omega)]
    have hh:Caps.has k.caps e c.e1 = true:=(xu F.ok).2 ⟨he,cw.c1,by have:=w.w1 (by omega); omega⟩
    by_cases hn:(Caps.get k.caps e c.e1).fRights = 0
    · rw [revoke_no hh hn,if_neg]
      rintro ⟨a1,a2⟩
      have hb:=F.by_ a pg a1
      rw [gz_empty F hn hb.1 (by have:=(eL hb.2.2).2; omega)] at a2
      cases a2
    · show q (revoke k e c.e1 _).2 a pg = _
      rw [revoke_q F hh hn]
      by_cases hz:(q k a pg).fRights ≠ 0
      · have hb:=F.by_ a pg hz
        have:=gz_goers F h hh hn hb.1 (by have:=(eL hb.2.2).2; omega)
        by_cases hg:gz k e c a (q k a pg).fSlot = true
        · rw [if_pos ⟨hz,this.1 hg⟩,if_pos ⟨hz,hg⟩]
        · rw [if_neg (fun x=>hg (this.2 x.2)),if_neg (fun x=>hg x.2)]
      · rw [if_neg (fun x=>hz x.1),if_neg (fun x=>hz x.1)]
  rcases ht with h | h | h | h
  · exact h45 (.inl h)
  · exact h45 (.inr h)
  · unfold aft
    rw [if_pos h]
    have:does k e c = errs (remove k e c.e1):=by unfold does; rw [w0 w,h1]; simp [h]
    rw [this]
    exact remove_q F.ok he a pg
  · unfold aft
    rw [if_neg (by omega),if_pos h]
    have h2:IntKind.i64.wrap c.e2 = c.e2:=kwr cw.c2 (by have:=w.w5 h; omega)
    have:does k e c = errs (protect k e c.e1 c.e2):=by unfold does; rw [w0 w,h1,h2]; simp [h]
    rw [this]
    have hp:=protect_q F he (pg:=c.e1) (r:=c.e2) a pg
    show q (protect k e c.e1 c.e2).2 a pg = _
    rw [hp]
    by_cases hc:e = a∧c.e1 = pg
    · obtain ⟨rfl,rfl⟩:=hc; rfl
    · rw [if_neg (fun x=>hc x.1),if_neg (fun x=>hc x.1)]
theorem do_mv {k:PK} (F:Fine k) {e:Int} {c:dv} (cw:Cw c):Mv k (do_ k e c).2∧(¬ Tk c→Mono k (do_ k e c).2):=by
  by_cases hb:off k e = true∨Word.check c k.s.fEnvs ≠ 0
  · rw [(do_bad hb).1]; exact ⟨.refl F,fun _=>.refl k⟩
  · simp only [not_or,Bool.not_eq_true,Decidable.not_not] at hb
    obtain ⟨he,hk⟩:=hb
    have w:=well_of (envs_of F.ok).1 (envs_of F.ok).2 hk
    rw [do_good he hk]
    have hs1:c.e0 ≠ 10→IntKind.i64.wrap c.e1 = c.e1∧c.e1 < 8:=fun h=>⟨kwr cw.c1 (by have:=w.w1 h; omega),w.w1 h⟩
    have hh1:c.e0 ≠ 10→Caps.has k.caps e c.e1 = true:=fun h=>(xu F.ok).2 ⟨he,cw.c1,(hs1 h).2⟩
    have c1:c.e0 = 1∨c.e0 = 2∨c.e0 = 3∨c.e0 = 4∨c.e0 = 5∨c.e0 = 6∨c.e0 = 7∨c.e0 = 8∨c.e0 = 9∨c.e0 = 10∨20 ≤ c.e0:=by have:=w.kind; omega
    rcases c1 with h | h | h | h | h | h | h | h | h | h | h
    · have e1:does k e c = errs (alloc k e c.e1):=by unfold does; rw [w0 w,(hs1 (by omega)).1]; simp [h]
      rw [e1]
      have:=mv_alloc F (hh1 (by omega))
      exact ⟨this.1,fun _=>this.2⟩
    · have h2:=w.w2 (.inl h)
      have h4:=w.w4 (.inl h)
      have e1:does k e c = errs (derive k e c.e1 e c.e2 c.e3):=by unfold does; rw [w0 w,(hs1 (by omega)).1,kwr cw.c2 (by omega),kwr cw.c3 (by omega)]; simp [h]
      rw [e1]
      have:=mv_derive F (r:=c.e3) (hh1 (by omega)) ((xu F.ok).2 ⟨he,cw.c2,by omega⟩)
      exact ⟨this.1,fun _=>this.2⟩
    · have h3:=w.w3 h
      have e1:does k e c = errs (derive k e c.e1 c.e2 c.e3 c.e4):=by
        unfold does; rw [w0 w,(hs1 (by omega)).1,kwr cw.c2 (by have:=(envs_of F.ok).2; omega),kwr cw.c3 (by omega),kwr cw.c4 (by omega)]; simp [h]
      rw [e1]
      have:=mv_derive F (r:=c.e4) (hh1 (by omega)) ((xu F.ok (e:=c.e2) (s:=c.e3)).2 ⟨off_iff.2 ⟨cw.c2,h3.1⟩,cw.c3,by omega⟩)
      exact ⟨this.1,fun _=>this.2⟩
    · rw [does_revoke w cw (.inl h)]
      exact ⟨mv_revoke F (hh1 (by omega)),fun hn=>absurd (.inl h) hn⟩
    · rw [does_revoke w cw (.inr h)]
      exact ⟨mv_revoke F (hh1 (by omega)),fun hn=>absurd (.inr (.inl h)) hn⟩
    · have h2:=w.w2 (.inr h)
      have h4:=w.w4 (.inr h)
      have e1:does k e c = errs (maps k e c.e1 c.e2 c.e3):=by unfold does; rw [w0 w,(hs1 (by omega)).1,kwr cw.c2 (by omega),kwr cw.c3 (by omega)]; simp [h]
      rw [e1]
      have:=mv_maps F (pg:=c.e1) (s:=c.e2) (r:=c.e3) he ((xu F.ok).2 ⟨he,cw.c2,by omega⟩)
      exact ⟨this.1,fun _=>this.2⟩
    · have e1:does k e c = errs (remove k e c.e1):=by unfold does; rw [w0 w,(hs1 (by omega)).1]; simp [h]
      rw [e1]
      exact ⟨mv_remove F he,fun hn=>absurd (.inr (.inr (.inl h))) hn⟩
    · have h5:=w.w5 h
      have e1:does k e c = errs (protect k e c.e1 c.e2):=by unfold does; rw [w0 w,(hs1 (by omega)).1,kwr cw.c2 (by omega)]; simp [h]
      rw [e1]
      exact ⟨mv_protect F he,fun hn=>absurd (.inr (.inr (.inr h))) hn⟩
    · have e1:does k e c = (sleep k e c,k):=by unfold does; rw [w0 w]; simp [h]
      rw [e1]; exact ⟨.refl F,fun _=>.refl k⟩
    · have e1:does k e c = ((⟨0,0⟩,true),k):=by unfold does; rw [w0 w]; simp [h]
      rw [e1]; exact ⟨.refl F,fun _=>.refl k⟩
    · have e1:does k e c = (((user k e c).1,true),(user k e c).2):=by
        unfold does; rw [w0 w]
        rw [if_neg (by omega),if_neg (by omega),if_neg (by omega),if_neg (by omega),if_neg (by omega),if_neg (by omega),if_neg (by omega),if_neg (by omega),if_neg (by omega),if_neg (by omega)]
      rw [e1]
      have:=mv_user F e c
      exact ⟨this.1,fun _=>this.2⟩
end PK
end Go.Proofs.YtemoifebbhoinaaGreatDoor
namespace Go.Proofs.YtemoifebbhoinaaGreatDoor
open Go Mb
theorem mid_eq (lo hi:Nat) (h:lo + hi < 2 ^ 62):IntKind.i64.wrap (Int.fdiv (IntKind.u64.wrap (IntKind.i64.wrap ((lo:Int) + (hi:Int)))) (2 ^ (min (Int.toNat 1) (IntKind.bits .u64)))) = (((lo + hi) / 2:Nat):Int):=by
  have e0:IntKind.i64.wrap ((lo:Int) + (hi:Int)) = ((lo + hi:Nat):Int):=by rw [bP (by omega) (by omega)]; rfl
  have e1:IntKind.u64.wrap ((lo + hi:Nat):Int) = ((lo + hi:Nat):Int):=by
    simp only [IntKind.wrap]; first | omega | (simp [IntKind.bits,IntKind.signed]; omega)
  have e2:(2:Int) ^ (min (Int.toNat 1) (IntKind.bits .u64)) = 2:=by decide
  rw [e0,e1,e2,Int.fdiv_eq_ediv_of_nonneg _ (by decide)]
  have e3:((lo + hi:Nat):Int) / 2 = (((lo + hi) / 2:Nat):Int):=by omega
  rw [e3,bP (by omega) (by omega)]
structure PlaceIn (xs:List Int) (a:Int) (i:Nat):Prop where
  le:i ≤ xs.length
  lo:∀ k (h:k < xs.length),k < i→xs[k] < a
  hi:∀ k (h:k < xs.length),i ≤ k→a ≤ xs[k]
theorem less_eq (x y:Int):iv x y = decide (x < y):=by
  unfold iv
  simp [dy]
theorem sp_BinarySearch (s:Sl) (xs:List Int) (a:Int) (hb:xs.length < 2 ^ 60) (hs:∀ i j (hi:i < xs.length) (hj:j < xs.length),i < j→xs[i] ≤ xs[j]) :
    Sp Tryz.prog eQ [sv s,.int .u64 a] bQ [vU s xs] (fun r=>pa_ (∃ i,PlaceIn xs a i∧r = ((i:Int),decide (xs[i]? = some a))) [vU s xs]):=by
  intro h s0
  have hl:=(ce (j:=0) s0 rfl).1
  refine mb _ _ ?_
  unfold gO
  refine Lp.intro (fun (z:Int × Int) h=>∃ lo hi:Nat,z = ((lo:Int),(hi:Int))∧lo ≤ hi∧hi ≤ xs.length∧(∀ k (h:k < xs.length),k < lo→xs[k] < a)∧(∀ k (h:k < xs.length),hi ≤ k→a ≤ xs[k])∧aF [vU s xs] h) (fun (z:Int × Int) _=>(z.2 - z.1).toNat)
    ⟨0,xs.length,by rw [hl]; rfl,Nat.zero_le _,Nat.le_refl _,fun k h h'=>by omega,fun k h h'=>by omega,s0⟩ ?_
  rintro z h ⟨lo,hi,rfl,h1,h2,h3,h4,s1⟩
  unfold eM
  refine aY (fun k=>?_) (fun k=>?_)
  · have hlt:lo < hi:=by have:=of_decide_eq_true k; simp at this; exact this
    have hm:=mid_eq lo hi (by omega)
    simp only [hm]
    have hml:(lo + hi) / 2 < xs.length:=by omega
    refine du s1 (j:=0) rfl (by omega) (by omega) fun q hq=>?_
    refine dU (j:=0) (i:=(lo + hi) / 2) (k:=0) xs[(lo + hi) / 2] (dm _) s1 rfl hq (by rw [Int.toNat_natCast]; rfl) (aD hml) (by simp) ?_
    rw [less_eq]
    refine aY (fun k2=>?_) (fun k2=>?_)
    · have k2':xs[(lo + hi) / 2] < a:=by simpa using k2
      have hw:IntKind.i64.wrap ((((lo + hi) / 2:Nat):Int) + 1) = (((lo + hi) / 2 + 1:Nat):Int):=by rw [bP (by omega) (by omega)]; rfl
      rw [hw]
      refine ⟨⟨(lo + hi) / 2 + 1,hi,rfl,by omega,h2,fun k hk hk'=>?_,h4,s1⟩,?_⟩
      · by_cases e:k = (lo + hi) / 2
        · subst e; exact k2'
        · have:=hs k _ hk hml (by omega); omega
      · show ((hi:Int) - (((lo + hi) / 2 + 1:Nat):Int)).toNat < ((hi:Int) - (lo:Int)).toNat
        omega
    · have k2':¬ xs[(lo + hi) / 2] < a:=by simpa using k2
      refine ⟨⟨lo,(lo + hi) / 2,rfl,by omega,by omega,h3,fun k hk hk'=>?_,s1⟩,?_⟩
      · by_cases e:k = (lo + hi) / 2
        · subst e; omega
        · have:=hs _ k hml hk (by omega); omega
      · show ((((lo + hi) / 2:Nat):Int) - (lo:Int)).toNat < ((hi:Int) - (lo:Int)).toNat
        omega
  · have hlt:lo = hi:=by have:=of_decide_eq_false k; simp at this; omega
    subst hlt
    have hp:PlaceIn xs a lo:=⟨h2,h3,h4⟩
    refine aY (fun k2=>?_) (fun k2=>?_)
    · have hlt:lo < xs.length:=by rw [hl] at k2; simpa using k2
      refine du s1 (j:=0) rfl (by omega) (by show (lo:Int) < _; omega) fun q hq=>?_
      refine dU (j:=0) (i:=lo) (k:=0) xs[lo] (dm _) s1 rfl hq (by simp) (aD hlt) (by simp) ?_
      refine aY (fun k3=>?_) (fun k3=>?_)
      · have k3':¬ xs[lo] = a:=by simpa using k3
        refine dU (j:=0) (i:=lo) (k:=0) xs[lo] (dm _) s1 rfl hq (by simp) (aD hlt) (by simp) ?_
        exact aZ ⟨lo,hp,by simp [dH,hlt,k3']⟩ s1
      · have k3':xs[lo] = a:=by simpa using k3
        exact aZ ⟨lo,hp,by simp [hlt,k3']⟩ s1
    · have hlt:¬ lo < xs.length:=by rw [hl] at k2; simpa using k2
      exact aZ ⟨lo,hp,by simp [List.getElem?_eq_none (Nat.le_of_not_lt hlt)]⟩ s1
def sub (m:Nat) (s:Sl) (lo hi:Nat):Sl:=⟨if s.cap = lo then s.a else s.a.map (fun q=>(q.1,q.2 + lo * m)),hi - lo,s.cap - lo,none⟩
theorem pa_map (p:Ptr) (n:Nat):(pa p).map (·.add n) = pa (p.map fun q=>(q.1,q.2 + n)):=by
  cases p with
  | none=>rfl
  | some q=>simp [pa,add_plain]
theorem slice_raw {P:Program} {h:Hp} {S T m bys:Nat} {z:List Value} {s:Sl} {lo hi:Nat} {vlo vhi:Option Value} {R:Sl→Value} {K:Sl→Hp→Prop} (E:El P S T m bys z) (hR:R = sv)
    (hlo:vlo = some (.int .i64 lo)∨vlo = none∧lo = 0) (hhi:vhi = some (.int .i64 hi)∨vhi = none∧hi = s.len) (h1:lo ≤ hi) (h2:hi ≤ s.cap) (k:K (sub m s lo hi) h):hpv P (Instr.sliceAt S (sv s) vlo vhi none) R K h:=by
  subst hR
  refine ⟨?_⟩
  obtain ⟨inf,hinf,e1,e2,e3⟩:=E.inf
  unfold Instr.sliceAt
  refine cu (dq E.sl ?_)
  show hp P (Instr.slice S (sv s) _ _ _) _ _
  unfold Instr.slice
  refine cu (dq E.sl ?_)
  simp only [sv]
  refine cu ?_
  unfold Instr.sliceBounds
  have fin:∀ hh:Hp,hh = h→hp P (do let size ← sizeOf T; pure (Value.slice (if s.cap = lo then pa s.a else (pa s.a).map (·.add (lo * size))) (hi - lo) (s.cap - lo))) (fun v h'=>∃ r,v = sv r∧K r h') hh:=by
    rintro _ rfl
    refine cu (oq hinf ?_)
    rw [e1]
    refine ⟨sub m s lo hi,?_,k⟩
    unfold sub sv
    split
    · rfl
    · rw [pa_map]
  rcases hhi with rfl | ⟨rfl,rfl⟩
  · refine cu (cu (cu ?_))
    unfold Instr.sliceBound
    refine cu (tA ?_)
    refine hp_yes ⟨by omega,by omega⟩ ?_
    rcases hlo with rfl | ⟨rfl,rfl⟩
    · refine cu (cu (tA ?_))
      refine hp_yes ⟨by omega,by omega⟩ ?_
      exact fin h rfl
    · exact fin h rfl
  · refine cu (cu ?_)
    rcases hlo with rfl | ⟨rfl,rfl⟩
    · refine cu ?_
      unfold Instr.sliceBound
      refine cu (tA ?_)
      refine hp_yes ⟨by omega,by omega⟩ ?_
      exact fin h rfl
    · exact fin h rfl
end Go.Proofs.YtemoifebbhoinaaGreatDoor
namespace Go.Proofs.YtemoifebbhoinaaGreatDoor
open Go Mb
set_option linter.unusedVariables false
def sh_mail_Mail_is (a0:Ptr) (a1:Int) (K:Bool→Hp→Prop):Hp→Prop:=br ((!a0.isNone) && (decide (a1 ≥ 0))) ( nn a0 fun q14=>ld (q14.1,q14.2 + 0) cS fun x16=>K (decide (a1 < (x16.len:Int)))) ( K false)
theorem sim_mail_Mail_is (a0:Ptr) (a1:Int) {K:Bool→Hp→Prop} {h:Hp} (H:sh_mail_Mail_is a0 a1 K h):Ct Tryz.prog lL #[(pv a0),(.int .i64 a1)] h fun v h'=>∃ r,v = aA r∧K r h':=aw [(pv a0),(.int .i64 a1)] Tryz.func168 c c c fun _=>M<|O c<|M<|J c<|p (v_pneT Tryz.underlying105 c)<|J c<|V c c (ay _) (fun g1=>wv<|ag c)<|V c c (ay _) (fun g2=>wv<|ij (az c g2) c)<|p (bO c c)<|J c<|V c c (ay _) (fun g3=>wv<|ag c)<|V c c (ay _) (fun g4=>wv<|ag c)<|bT H (fun k6 H7=>bI H7 fun q14 e8 H9=>G (Y k6)<|z_p (aL<|aK (az c k6)<|aq e8)<|G (Y k6)<|z_p (ae mA c)<|G (Y k6)<|aW H9 lx c (fun _=>c) c fun x16 H10=>G (Y k6)<|z_p (dl c Tryz.underlying163 c)<|G (Y k6)<|z_p (cq (az c k6) c)<|p (aI c k6 c)<|O c<|ah<|D ⟨decide (a1 < (x16.len:Int)),c,H10⟩) fun k6 H7=>W (aJ k6)<|W (aJ k6)<|W (aJ k6)<|W (aJ k6)<|W (aJ k6)<|p (ao c k6 c)<|O c<|ah<|D ⟨false,c,H7⟩
def uk (a0:Ptr) (a1:Int) (a2:Int) (a3:Int) (K:Bool→Hp→Prop):Hp→Prop:=cl Tryz.prog lL [(pv a0),(.int .i64 a1)] aA fun r13=>br (!(!r13)) ( cl Tryz.prog lL [(pv a0),(.int .i64 a2)] aA fun r18=>br ((!r18) || (a1 == a2)) ( K false) ( nn a0 fun q28=>ld (q28.1,q28.2 + 0) cS fun x30=>ix x30 a2 fun q32=>ld (q32.1,q32.2 + Int.toNat a2 * 1) cS fun x33=>cl Tryz.prog eQ [(sv x33),(.int .u64 a3)] bQ fun r35=>br (!r35.2) ( ld (q28.1,q28.2 + 0) cS fun x48=>ix x48 a2 fun q50=>ld (q50.1,q50.2 + Int.toNat a2 * 1) cS fun x51=>both ( ld (q28.1,q28.2 + 0) cS fun x43=>hpv Tryz.prog (Instr.buildSlice be 1 #[(0,(.int .u64 a3))]) cg fun (v54:Sl)=>cl Tryz.prog dD [(sv x51),(.int .i64 r35.1),(sv v54)] cg fun r55=>ix x43 a2 fun q56=>st (q56.1,q56.2 + Int.toNat a2 * 1) [sv r55]<|K true) ( hpv Tryz.prog (Instr.buildSlice be 1 #[(0,(.int .u64 a3))]) cg fun (v54:Sl)=>both ( ld (q28.1,q28.2 + 0) cS fun x43=>cl Tryz.prog dD [(sv x51),(.int .i64 r35.1),(sv v54)] cg fun r55=>ix x43 a2 fun q56=>st (q56.1,q56.2 + Int.toNat a2 * 1) [sv r55]<|K true) ( cl Tryz.prog dD [(sv x51),(.int .i64 r35.1),(sv v54)] cg fun r55=>ld (q28.1,q28.2 + 0) cS fun x43=>ix x43 a2 fun q56=>st (q56.1,q56.2 + Int.toNat a2 * 1) [sv r55]<|K true))) ( K true))) ( K false)
theorem sim_mail_Mail_Send (a0:Ptr) (a1:Int) (a2:Int) (a3:Int) {K:Bool→Hp→Prop} {h:Hp} (H:uk a0 a1 a2 a3 K h):Ct Tryz.prog qk #[(pv a0),(.int .i64 a1),(.int .i64 a2),(.int .u64 a3)] h fun v h'=>∃ r,v = aA r∧K r h':=aw [(pv a0),(.int .i64 a1),(.int .i64 a2),(.int .u64 a3)] Tryz.func120 c c c fun _=>M<|O c<|ak<|M<|J c<|J c<|aa<|F H en_168 fun r13 _ H1=>p (ct c)<|J c<|V c c (aG _) (fun g2=>wv<|ag c)<|V c c (aG _) (fun g3=>wv<|ag c)<|bT H1 (fun k5 H6=>G (Y<|bN k5)<|gm H6 en_168 (aT (az c k5)<|aT (az c k5) bW) c fun r18 _ H7=>G (Y<|bN k5)<|z_p (ct c)<|p (ao c (bN k5) c)<|J c<|V c c (aG _) (fun g8=>wv<|ag c)<|V c c (aG _) (fun g9=>wv<|ag c)<|V c c (aG _) (fun g10=>wv<|bH (az c g10)<|az c g10)<|p (cZ c c)<|ad<|av c H7 (fun k11 H12=>M<|O c<|ah<|D ⟨false,c,H12⟩) fun k11 H12=>an<|ak<|M<|J c<|bI H12 fun q28 e13 H14=>p (aL<|aK c<|aq e13)<|p (ae mA c)<|aa<|aW H14 lx c (fun _=>c) c fun x30 H15=>J c<|ck H15 fun q32 e16 h17 H18=>p (bh ma (aK c<|aX e16) c h17)<|aa<|aW H18 sc_93 c (fun _=>c) c fun x33 H19=>J c<|aa<|F H19 en_169 fun r35 _ H20=>J c<|p (aj c c)<|p (aj c c)<|p (ar c)<|O c<|M<|J c<|p (ct c)<|ad<|av c H20 (fun k21 H22=>bm (n:=18) [] cn c .slnil<|U 0 c (ag<|aK c<|aq e13)<|U 1 c (aL c)<|U 2 c (ae mA c)<|U 4 c (ag c)<|U 5 c (ag<|aK c<|aq e13)<|U 6 c (aL c)<|U 7 c (ae mA c)<|U 9 c (ag c)<|U 12 c (ag c)<|U 13 c (ag c)<|bJ (i:=8) (fun _ _ _ _ hh=>hh) H22 c (by kernel_rfl) lx c (fun _=>c) c fun x48 H23=>fF H23 fun q50 e24 h25 H26=>U 10 c (bh ma (aK c<|aX e24) c h25)<|bJ (i:=11) (fun _ _ _ _ hh=>hh) H26 c (by kernel_rfl) sc_93 c (fun _=>c) c fun x51 H27=>jR H27 fun H28_1 H28_2=>jS (i:=3) (j:=14) (by kernel_rfl) (cJ c c<|aW H28_1 lx c (fun _=>c) c fun x43 H29=>⟨.slnil,R 14 c<|aU H29 (bz (vs:=[(.int .u64 a3)]) c) c fun v54 _ H30=>⟨.slnil,R 15 c<|F H30 en_170 fun r55 _ H31=>⟨.slnil,fF H31 fun q56 e32 h33 H34=>U 16 c (bh ma (aK c<|aX e32) c h33)<|R 17 c<|dh inf_93 c c c c c H34 fun _ H35=>⟨.slnil,aO (by kernel_rfl)<|M<|O c<|ah<|D ⟨true,c,H35⟩⟩⟩⟩⟩)<|cJ c c<|aU H28_2 (bz (vs:=[(.int .u64 a3)]) c) c fun v54 _ H29=>⟨.slnil,jR H29 fun H30_1 H30_2=>jS (i:=3) (j:=15) (by kernel_rfl) (cJ c c<|aW H30_1 lx c (fun _=>c) c fun x43 H31=>⟨.slnil,R 15 c<|F H31 en_170 fun r55 _ H32=>⟨.slnil,fF H32 fun q56 e33 h34 H35=>U 16 c (bh ma (aK c<|aX e33) c h34)<|R 17 c<|dh inf_93 c c c c c H35 fun _ H36=>⟨.slnil,aO (by kernel_rfl)<|M<|O c<|ah<|D ⟨true,c,H36⟩⟩⟩⟩)<|cJ c c<|F H30_2 en_170 fun r55 _ H31=>⟨.slnil,bJ (i:=3) (fun _ _ _ _ hh=>hh) H31 c (by kernel_rfl) lx c (fun _=>c) c fun x43 H32=>fF H32 fun q56 e33 h34 H35=>U 16 c (bh ma (aK c<|aX e33) c h34)<|R 17 c<|dh inf_93 c c c c c H35 fun _ H36=>⟨.slnil,aO (by kernel_rfl)<|M<|O c<|ah<|D ⟨true,c,H36⟩⟩⟩⟩) fun k21 H22=>an<|M<|O c<|ah<|D ⟨true,c,H22⟩) fun k5 H6=>W (bb<|bo k5)<|W (bb<|bo k5)<|p (aI c (bo k5) c)<|J c<|W c<|W c<|W c<|p (aI c c c)<|ad<|fG c c<|M<|O c<|ah<|D ⟨false,c,H6⟩
def qo (a1:Int) (a2:Int) (K:Int→Hp→Prop) (q12:Nat × Nat) (x14:Sl) (Rec7:(Int × Int)→Hp→Prop) (s6:Int × Int):Hp→Prop:=br (decide (s6.2 < (x14.len:Int))) ( cl Tryz.prog qk [(.pointer (some ⟨q12.1,q12.2,none⟩)),(.int .i64 a1),(.int .i64 s6.2),(.int .u64 a2)] aA fun r23=>br r23 ( Rec7 ((IntKind.i64.wrap (s6.1 + 1)),(IntKind.i64.wrap (s6.2 + 1)))) ( Rec7 (s6.1,(IntKind.i64.wrap (s6.2 + 1))))) ( K s6.1)
def vM (a0:Ptr) (a1:Int) (a2:Int) (K:Int→Hp→Prop):Hp→Prop:=br a0.isNone ( K 0) ( nn a0 fun q12=>ld (q12.1,q12.2 + 0) cS fun x14=>Lp (qo a1 a2 K q12 x14) (0,0))
theorem sim_mail_Mail_All (a0:Ptr) (a1:Int) (a2:Int) {K:Int→Hp→Prop} {h:Hp} (H:vM a0 a1 a2 K h):Ct Tryz.prog nv #[(pv a0),(.int .i64 a1),(.int .u64 a2)] h fun v h'=>∃ r,v = eJ r∧K r h':=aw [(pv a0),(.int .i64 a1),(.int .u64 a2)] Tryz.func70 c c c fun _=>M<|O c<|ak<|M<|J c<|p (cr Tryz.underlying105 c)<|ad<|av c H (fun k1 H2=>M<|O c<|ah<|D ⟨0,c,H2⟩) fun k1 H2=>an<|M<|O c<|ak<|M<|J c<|bI H2 fun q12 e3 H4=>p (aL<|aK c<|aq e3)<|p (ae mA c)<|aa<|aW H4 lx c (fun _=>c) c fun x14 H5=>p (dl c Tryz.underlying163 c)<|J c<|ad<|ax<|bG (step:=qo a1 a2 K q12 x14) (fun s6=>[(0,(pv a0)),(1,(.int .i64 a1)),(2,(.int .u64 a2)),(7,(.int .i64 s6.1)),(15,(.int .i64 (x14.len:Int))),(16,(.int .i64 s6.2))]) (fun s6=>[]) H5 (.cons c<|.cons c<|.cons c<|.cons c<|.cons c<|.cons c<|.nil _) .slnil fun Rec7 s6 _ H8=>M<|p (cq c c)<|ad<|ak<|av c H8 (fun k9 H10=>an<|ak<|ax<|M<|J c<|O c<|M<|J (aK c<|aq e3)<|J c<|J c<|J c<|aa<|F H10 en_120 fun r23 _ H11=>ad<|av c H11 (fun k12 H13=>ap<|J c<|p (bn c c)<|O c<|ap<|p (bn c c)<|J c<|ad<|cM ((IntKind.i64.wrap (s6.1 + 1)),(IntKind.i64.wrap (s6.2 + 1))) H13 (.cons c<|.cons c<|.cons c<|.cons c<|.cons c<|.cons c<|.nil _) .slnil) fun k12 H13=>an<|ap<|p (bn c c)<|J c<|ad<|cM (s6.1,(IntKind.i64.wrap (s6.2 + 1))) H13 (.cons c<|.cons c<|.cons c<|.cons c<|.cons c<|.cons c<|.nil _) .slnil) fun k9 H10=>bj<|M<|J c<|O c<|ah<|D ⟨s6.1,c,H10⟩
def sY (a0:Ptr) (a1:Int) (K:Int→Hp→Prop):Hp→Prop:=cl Tryz.prog lL [(pv a0),(.int .i64 a1)] aA fun r7=>br (!r7) ( K 0) ( nn a0 fun q10=>ld (q10.1,q10.2 + 0) cS fun x12=>ix x12 a1 fun q14=>ld (q14.1,q14.2 + Int.toNat a1 * 1) cS fun x15=>K (x15.len:Int))
theorem sim_mail_Mail_Waits (a0:Ptr) (a1:Int) {K:Int→Hp→Prop} {h:Hp} (H:sY a0 a1 K h):Ct Tryz.prog li #[(pv a0),(.int .i64 a1)] h fun v h'=>∃ r,v = eJ r∧K r h':=aw [(pv a0),(.int .i64 a1)] Tryz.func132 c c c fun _=>M<|O c<|ak<|M<|J c<|J c<|aa<|F H en_168 fun r7 _ H1=>p (ct c)<|ad<|av c H1 (fun k2 H3=>M<|O c<|ah<|D ⟨0,c,H3⟩) fun k2 H3=>an<|M<|J c<|bI H3 fun q10 e4 H5=>p (aL<|aK c<|aq e4)<|p (ae mA c)<|aa<|aW H5 lx c (fun _=>c) c fun x12 H6=>J c<|ck H6 fun q14 e7 h8 H9=>p (bh ma (aK c<|aX e7) c h8)<|aa<|aW H9 sc_93 c (fun _=>c) c fun x15 H10=>p (dl c Tryz.underlying93 c)<|O c<|ah<|D ⟨(x15.len:Int),c,H10⟩
def uj (a0:Ptr) (a1:Int) (K:(Int × Bool)→Hp→Prop):Hp→Prop:=cl Tryz.prog li [(pv a0),(.int .i64 a1)] eJ fun r9=>br (r9 == 0) ( K (0,false)) ( nn a0 fun q12=>ld (q12.1,q12.2 + 0) cS fun x14=>ix x14 a1 fun q16=>ld (q16.1,q16.2 + Int.toNat a1 * 1) cS fun x17=>ix x17 0 fun q18=>ld (q18.1,q18.2 + Int.toNat 0 * 1) (cI .u64) fun x19=>ld (q12.1,q12.2 + 0) cS fun x28=>ix x28 a1 fun q30=>ld (q30.1,q30.2 + Int.toNat a1 * 1) cS fun x31=>both ( ld (q12.1,q12.2 + 0) cS fun x23=>hpv Tryz.prog (Instr.sliceAt be (sv x31) (some (.int .i64 1)) none none) cg fun (v32:Sl)=>ix x23 a1 fun q33=>st (q33.1,q33.2 + Int.toNat a1 * 1) [sv v32]<|K (x19,true)) ( hpv Tryz.prog (Instr.sliceAt be (sv x31) (some (.int .i64 1)) none none) cg fun (v32:Sl)=>ld (q12.1,q12.2 + 0) cS fun x23=>ix x23 a1 fun q33=>st (q33.1,q33.2 + Int.toNat a1 * 1) [sv v32]<|K (x19,true)))
theorem sim_mail_Mail_Take (a0:Ptr) (a1:Int) {K:(Int × Bool)→Hp→Prop} {h:Hp} (H:uj a0 a1 K h):Ct Tryz.prog mj #[(pv a0),(.int .i64 a1)] h fun v h'=>∃ r,v = bM r∧K r h':=aw [(pv a0),(.int .i64 a1)] Tryz.func97 c c c fun _=>M<|p (ar c)<|O c<|ak<|M<|J c<|J c<|aa<|F H en_132 fun r9 _ H1=>p (bH c c)<|ad<|av c H1 (fun k2 H3=>M<|p (ar c)<|O c<|ah<|bA (bV c (cf c)<|cf c) ⟨(0,false),c,H3⟩) fun k2 H3=>an<|M<|J c<|bI H3 fun q12 e4 H5=>p (aL<|aK c<|aq e4)<|p (ae mA c)<|aa<|aW H5 lx c (fun _=>c) c fun x14 H6=>J c<|ck H6 fun q16 e7 h8 H9=>p (bh ma (aK c<|aX e7) c h8)<|aa<|aW H9 sc_93 c (fun _=>c) c fun x17 H10=>ck H10 fun q18 e11 h12 H13=>p (bh wH (aK c<|aX e11) c h12)<|aa<|aW H13 cy c (fun _=>c) c fun x19 H14=>O c<|ak<|bm (n:=15) [] cn c .slnil<|U 0 c (ag<|aK c<|aq e4)<|U 1 c (aL c)<|U 2 c (ae mA c)<|U 4 c (ag c)<|U 5 c (ag<|aK c<|aq e4)<|U 6 c (aL c)<|U 7 c (ae mA c)<|U 9 c (ag c)<|bJ (i:=8) (fun _ _ _ _ hh=>hh) H14 c (by kernel_rfl) lx c (fun _=>c) c fun x28 H15=>fF H15 fun q30 e16 h17 H18=>U 10 c (bh ma (aK c<|aX e16) c h17)<|bJ (i:=11) (fun _ _ _ _ hh=>hh) H18 c (by kernel_rfl) sc_93 c (fun _=>c) c fun x31 H19=>jR H19 fun H20_1 H20_2=>jS (i:=3) (j:=12) (by kernel_rfl) (cJ c c<|aW H20_1 lx c (fun _=>c) c fun x23 H21=>⟨.slnil,R 12 c<|aU H21 (eS c c c c c) c fun v32 _ H22=>⟨.slnil,fF H22 fun q33 e23 h24 H25=>U 13 c (bh ma (aK c<|aX e23) c h24)<|R 14 c<|dh inf_93 c c c c c H25 fun _ H26=>⟨.slnil,aO (by kernel_rfl)<|M<|J c<|p (ar c)<|O c<|ah<|bA (bV c (cf c)<|cf c) ⟨(x19,true),c,H26⟩⟩⟩⟩)<|cJ c c<|aU H20_2 (eS c c c c c) c fun v32 _ H21=>⟨.slnil,bJ (i:=3) (fun _ _ _ _ hh=>hh) H21 c (by kernel_rfl) lx c (fun _=>c) c fun x23 H22=>fF H22 fun q33 e23 h24 H25=>U 13 c (bh ma (aK c<|aX e23) c h24)<|R 14 c<|dh inf_93 c c c c c H25 fun _ H26=>⟨.slnil,aO (by kernel_rfl)<|M<|J c<|p (ar c)<|O c<|ah<|bA (bV c (cf c)<|cf c) ⟨(x19,true),c,H26⟩⟩⟩
def sh_mail_New (a0:Int) (K:Ptr→Hp→Prop):Hp→Prop:=br ((decide (a0 < 1)) || (decide (a0 > 8))) ( K none) ( hpv Tryz.prog (Instr.makeSlice qe (.int .i64 a0) (.int .i64 a0)) R_SSuint64 fun (v10:Sl)=>nw lu (oz.C (⟨v10⟩:oz)) fun b12=>K (some (b12,0)))
theorem sim_mail_New (a0:Int) {K:Ptr→Hp→Prop} {h:Hp} (H:sh_mail_New a0 K h):Ct Tryz.prog tv #[(.int .i64 a0)] h fun v h'=>∃ r,v = pz r∧K r h':=aw [(.int .i64 a0)] Tryz.func57 c c c fun _=>M<|O c<|ak<|M<|J c<|p (cq c c)<|J c<|V c c (aG _) (fun g1=>wv<|ag c)<|V c c (aG _) (fun g2=>wv<|kP (az c g2) c)<|p (cZ c c)<|ad<|av c H (fun k3 H4=>M<|O c<|ah<|D ⟨none,c,H4⟩) fun k3 H4=>an<|M<|J c<|aa<|aU H4 (jX c c) c fun v10 _ H5=>p (bd c<|build_165_0 v10)<|aa<|io c c c H5 fun b12 _ H6=>O c<|ah<|D ⟨some (b12,0),c,H6⟩
end Go.Proofs.YtemoifebbhoinaaGreatDoor
namespace Go.Proofs.YtemoifebbhoinaaGreatDoor
open Go Mb
theorem uQ (s y:Sl) (xs:List Int) (a:Int) (hl:xs.length < 2 ^ 40) :
    Sp Tryz.prog dD [sv s,.int .i64 xs.length,sv y] cg [vU s xs,vU y [a]] (fun r=>vU r (xs++[a])):=by
  intro h s0
  have hs:=(ce (j:=0) s0 rfl).1
  have hy:=(ce (j:=1) s0 rfl).1
  have hcap:s.len ≤ s.cap:=star_fact (i:=0) rfl (fun _ hv=>hv.2.1) s0
  refine pC _ _ _ ?_
  unfold jG
  refine slice_raw (lo:=xs.length) (hi:=s.len) ge rfl (.inl rfl) (.inr ⟨rfl,rfl⟩) (by omega) hcap ?_
  refine dI (by rw [hy]; rfl) ?_
  refine dZ (by rw [hs]; simp) ?_
  refine tP (τ:=Int) (i:=0) (j:=1) (enc:=cI .u64) (ys:=[a]) ge ge.sl (dm _) (oneI _) s0 rfl rfl (by omega) (by simp; omega) (by simp; omega) fun v h2 s2=>?_
  obtain ⟨h3,h4,d,rfl,a2,_⟩:=s2
  obtain ⟨e1,e2,e3⟩:=a2
  refine ⟨e1,e2,?_⟩
  rcases e3 with e3 | ⟨b,pre,rest,U,fr,f1,f2,fg,f3⟩
  · exact .inl e3
  · exact .inr ⟨b,pre,rest,U,fr,f1,f2,fg,un_left f3⟩
def jx (x:Ptr) (bs:List (List Int)):As:=fun h=>∃ z:Nat × Sl × List Sl,(x = some (z.1,0)∧z.2.2.length = bs.length∧bs.length ≤ 8)∧aF [blk z.1 lu [sv z.2.1],vec be 1 cS z.2.1 z.2.2,all vU z.2.2 bs] h
theorem mail_op {x:Ptr} {bs:List (List Int)} {l:List As} {h:Hp} (s0:aF (jx x bs::l) h):∃ b s ss,x = some (b,0)∧ss.length = bs.length∧bs.length ≤ 8∧s.len = bs.length∧aF (blk b lu [sv s]::vec be 1 cS s ss::all vU ss bs::l) h:=by
  obtain ⟨⟨b,s,ss⟩,⟨hx,h1,h2⟩,st⟩:=op_ s0
  exact ⟨b,s,ss,hx,h1,h2,(ce (j:=1) st rfl).1.trans h1,st⟩
theorem mail_cl {b:Nat} {s:Sl} {ss:List Sl} {bs:List (List Int)} {l:List As} {h:Hp} (h1:ss.length = bs.length) (h2:bs.length ≤ 8) (st:aF (blk b lu [sv s]::vec be 1 cS s ss::all vU ss bs::l) h):aF (jx (some (b,0)) bs::l) h :=
  cl_ (m:=fun z:Nat × Sl × List Sl=>[blk z.1 lu [sv z.2.1],vec be 1 cS z.2.1 z.2.2,all vU z.2.2 bs]) (b,s,ss) ⟨rfl,h1,h2⟩ st
namespace Mail
abbrev S:=List (List Int)
def has (bs:S) (c:Int):Bool:=decide (0 ≤ c∧c < bs.length)
def box (bs:S) (c:Int):List Int:=bs.getD c.toNat []
def send (bs:S) (f t e:Int):Bool × S:=if has bs f = true∧has bs t = true∧f ≠ t then (true,bs.set t.toNat (box bs t++[e])) else (false,bs)
def sends (bs:S) (f e:Int):Nat→Int × S
  | 0=>(0,bs)
  | n + 1=>if (send (sends bs f e n).2 f n e).1 then ((sends bs f e n).1 + 1,(send (sends bs f e n).2 f n e).2) else ((sends bs f e n).1,(send (sends bs f e n).2 f n e).2)
def waits (bs:S) (c:Int):Int:=if has bs c then (box bs c).length else 0
def take (bs:S) (c:Int):(Int × Bool) × S:=if waits bs c = 0 then ((0,false),bs) else (((box bs c).getD 0 0,true),bs.set c.toNat ((box bs c).drop 1))
structure Fit (l:List Int) (e:Int):Prop where
  lt:∀ x ∈ l,x < e
  up:l.Pairwise (· < ·)
  len:l.length < 2 ^ 40
theorem send_len (bs:S) (f t e:Int):(send bs f t e).2.length = bs.length:=by unfold send; split <;> simp
theorem sends_len (bs:S) (f e:Int):∀ n,(sends bs f e n).2.length = bs.length
  | 0=>rfl
  | n + 1=>by unfold sends; split <;> simp only [send_len,sends_len bs f e n]
theorem send_other (bs:S) (f e:Int) (n m:Nat) (h:n ≠ m):(send bs f n e).2[m]? = bs[m]?:=by
  unfold send; split
  · simp only [Int.toNat_natCast]; rw [List.getElem?_set_ne h]
  · rfl
theorem sends_ge (bs:S) (f e:Int):∀ n m,n ≤ m→(sends bs f e n).2[m]? = bs[m]?
  | 0,_,_=>rfl
  | n + 1,m,h=>by unfold sends; split <;> simp only <;> rw [send_other _ _ _ _ _ (by omega),sends_ge bs f e n m (by omega)]
end Mail
theorem nils:∀ (n:Nat) {l:List As} {h:Hp},aF l h→aF (all vU (List.replicate n (⟨none,0,0,none⟩:Sl)) (List.replicate n ([]:List Int))::l) h
  | 0,_,_,s=>all_nil s
  | n + 1,l,h,s=>by
    have s1:=fR (τ:=Int) (T:=t_uint64) (m:=1) (enc:=cI .u64) (nils n s)
    rw [List.replicate_succ,List.replicate_succ]
    obtain ⟨h1,h2,d,e,a,h3,h4,d2,e2,b,s'⟩:=s1
    subst e2
    obtain ⟨d3,d4⟩:=Dj.of_un_right d
    exact ⟨un h1 h3,h4,Dj.un_left d4 d2,by rw [e,mW],⟨h1,h3,d3,rfl,a,b⟩,s'⟩
theorem sp_mail_New (n:Int) (h1:¬ n < 1) (h2:¬ n > 8):Sp Tryz.prog tv [.int .i64 n] pz [] (fun r=>aF [jx r (List.replicate n.toNat [])]):=by
  intro h st
  refine sim_mail_New _ ?_
  unfold sh_mail_New
  obtain ⟨m,rfl⟩:=Int.eq_ofNat_of_zero_le (show 0 ≤ n by omega)
  refine dI (by simp; omega) ?_
  refine ol (τ:=Sl) (x0:=⟨none,0,0,none⟩) (enc:=cS) (n:=m) (T:=be) (m:=1) uK rfl st ?_ ?_ ?_
  · omega
  · omega
  · intro v h' s1
    have s2:=nils m s1
    refine pD s2 fun b h'' s3=>?_
    exact mail_cl (by simp) (by simp; omega) (bc [0,1] s3 rfl)
theorem sp_mail_is (x:Ptr) (bs:Mail.S) (c:Int):Sp Tryz.prog lL [pv x,.int .i64 c] aA [jx x bs] (fun r=>pa_ (r = Mail.has bs c) [jx x bs]):=by
  intro h s0
  obtain ⟨b,s,ss,rfl,hss,hb,hs,st⟩:=mail_op s0
  refine sim_mail_Mail_is _ _ ?_
  unfold sh_mail_Mail_is
  refine aY (fun k=>?_) (fun k=>?_)
  · have k':0 ≤ c:=by simpa using k
    refine cE (bp s st (i:=0) rfl rfl rfl ?_)
    exact aZ (by simp [Mail.has,k',hs]) s0
  · have k':¬ 0 ≤ c:=by simpa using k
    exact aZ (by simp [Mail.has]; intro h; exact absurd h k') s0
theorem has_nat {bs:Mail.S} {c:Int} (h:Mail.has bs c = true):∃ n:Nat,c = n∧n < bs.length:=by
  unfold Mail.has at h
  have:=of_decide_eq_true h
  exact ⟨c.toNat,by omega,by omega⟩
theorem place_end {l:List Int} {e:Int} (f:Mail.Fit l e) {i:Nat} (p:PlaceIn l e i):i = l.length:=by
  rcases Nat.lt_or_ge i l.length with h | h
  · have h1:=p.hi i h (Nat.le_refl _)
    have h2:=f.lt _ (List.getElem_mem h)
    omega
  · have:=p.le; omega
theorem sp_mail_Send (x:Ptr) (bs:Mail.S) (f t e:Int) (hf:∀ l,bs[t.toNat]? = some l→Mail.Fit l e):Sp Tryz.prog qk [pv x,.int .i64 f,.int .i64 t,.int .u64 e] aA [jx x bs] (fun r=>pa_ (r = (Mail.send bs f t e).1) [jx x (Mail.send bs f t e).2]):=by
  intro h s0
  refine sim_mail_Mail_Send _ _ _ _ ?_
  unfold uk
  refine cR [0] (sp_mail_is x bs f) s0 rfl fun r h1 s1=>?_
  obtain ⟨rfl,s2⟩:=bu.1 s1
  have no:¬ (Mail.has bs f = true∧Mail.has bs t = true∧f ≠ t)→Mail.send bs f t e = (false,bs):=fun hh=>if_neg hh
  refine aY (fun k=>?_) (fun k=>?_)
  · have k':Mail.has bs f = true:=by simpa using k
    refine cR [0] (sp_mail_is x bs t) s2 rfl fun r h3 s3=>?_
    obtain ⟨rfl,s4⟩:=bu.1 s3
    refine aY (fun k2=>?_) (fun k2=>?_)
    · rw [no (by simp at k2; intro hh; rcases k2 with k2 | k2; exact absurd hh.2.1 (by simp [k2]); exact hh.2.2 k2)]
      exact aZ rfl s4
    · have k2':Mail.has bs t = true∧f ≠ t:=by simpa using k2
      obtain ⟨n,rfl,hn⟩:=has_nat k2'.1
      have ed:Mail.send bs f n e = (true,bs.set n (Mail.box bs n++[e])):=if_pos ⟨k',k2'.1,k2'.2⟩
      rw [ed]
      obtain ⟨b,s,ss,rfl,hss,hb,hs,st⟩:=mail_op s4
      have hns:n < ss.length:=by omega
      have hg:Mail.box bs n = bs[n]:=by simp [Mail.box,hn]
      have fit:=hf bs[n] (by rw [Int.toNat_natCast]; exact aD hn)
      refine cE (bp s st (i:=0) rfl rfl rfl ?_)
      refine du st (j:=1) rfl (by omega) (by omega) fun q hq=>?_
      refine dU (j:=1) (i:=n) (k:=0) ss[n] rC st rfl hq (by simp) (aD hns) (by simp) ?_
      have st1:=jq (aD hns) (aD hn) (bc [2] st rfl)
      refine cR [0] (sp_BinarySearch ss[n] bs[n] e (by have:=fit.len; omega) (fun i j hi hj hij=>Int.le_of_lt (List.pairwise_iff_getElem.1 fit.up i j hi hj hij))) st1 rfl fun r h5 s5=>?_
      obtain ⟨⟨i,pi,hr⟩,s6⟩:=bu.1 s5
      have hi:=place_end fit pi
      subst hi
      have hr2:r.2 = false:=by rw [hr]; simp
      refine dZ (by rw [hr2]; rfl) ?_
      refine bp s s6 (i:=2) rfl rfl rfl ?_
      refine du s6 (j:=3) rfl (by omega) (by omega) fun q2 hq2=>?_
      refine dU (j:=3) (i:=n) (k:=0) ss[n] rC s6 rfl hq2 (by simp) (aD hns) (by simp) ?_
      have fin:∀ (r55:Sl) (v54:Sl) (h:Hp),aF [vU r55 (bs[n]++[e]),but vU ss bs n,blk b lu [sv s],vec be 1 cS s ss] h →
          ix s n (fun q56=>Mb.st (q56.1,q56.2 + Int.toNat n * 1) [sv r55]<|pa_ (true = true) [jx (some (b,0)) (bs.set n (bs[n]++[e]))]) h:=by
        intro r55 v54 h s7
        refine du s7 (j:=3) rfl (by omega) (by omega) fun q3 hq3=>?_
        refine st_v (j:=3) (i:=n) (k:=0) r55 rC s7 rfl hq3 (by simp) (aD hns) (by simp) rfl fun h8 s8=>?_
        have s9:=all_in2 (y:=bs[n]++[e]) hn hss s8
        exact aZ rfl (mail_cl (by simpa using hss) (by simpa using hb) (bc [1,1] s9 rfl))
      rw [hg,hr]
      refine ⟨?_,?_⟩
      · refine bp s s6 (i:=2) rfl rfl rfl ?_
        refine fH (τ:=Int) [e] (val:=fun x=>.int .u64 x) (enc:=cI .u64) ge (dm _) (fun _=>rfl) s6 rfl rfl (by simp) fun y h' s7=>?_
        refine cR [1,0] (uQ ss[n] y bs[n] e fit.len) s7 rfl fun r h8 s8=>?_
        exact fin r y h8 s8
      · refine fH (τ:=Int) [e] (val:=fun x=>.int .u64 x) (enc:=cI .u64) ge (dm _) (fun _=>rfl) s6 rfl rfl (by simp) fun y h' s7=>?_
        refine ⟨?_,?_⟩
        · refine bp s s7 (i:=3) rfl rfl rfl ?_
          refine cR [1,0] (uQ ss[n] y bs[n] e fit.len) s7 rfl fun r h8 s8=>?_
          exact fin r y h8 s8
        · refine cR [1,0] (uQ ss[n] y bs[n] e fit.len) s7 rfl fun r h8 s8=>?_
          refine bp s s8 (i:=2) rfl rfl rfl ?_
          exact fin r y h8 s8
  · rw [no (by simp at k; simp [k])]
    exact aZ rfl s2
theorem sp_mail_All (x:Ptr) (bs:Mail.S) (f e:Int) (hf:∀ l ∈ bs,Mail.Fit l e):Sp Tryz.prog nv [pv x,.int .i64 f,.int .u64 e] eJ [jx x bs] (fun r=>pa_ (r = (Mail.sends bs f e bs.length).1) [jx x (Mail.sends bs f e bs.length).2]):=by
  intro h s0
  obtain ⟨b,s,ss,rfl,hss,hb,hs,st⟩:=mail_op s0
  refine sim_mail_Mail_All _ _ _ ?_
  unfold vM
  refine dI rfl (cE (bp s st (i:=0) rfl rfl rfl ?_))
  refine Lp.intro (fun (z:Int × Int) h=>∃ n:Nat,z.2 = n∧n ≤ bs.length∧z.1 = (Mail.sends bs f e n).1∧0 ≤ z.1∧z.1 ≤ n∧aF [jx (some (b,0)) (Mail.sends bs f e n).2] h) (fun (z:Int × Int) _=>bs.length - z.2.toNat) ⟨0,rfl,Nat.zero_le _,rfl,Int.le_refl _,Int.le_refl _,s0⟩ ?_
  rintro ⟨z,i⟩ h ⟨n,rfl,hn,hz,hz0,hz1,s1⟩
  simp only at hz hz0 hz1
  unfold qo
  refine aY (fun k=>?_) (fun k=>?_)
  · have hlt:n < bs.length:=by rw [hs] at k; simpa using k
    have hw:IntKind.i64.wrap ((n:Int) + 1) = ((n + 1:Nat):Int):=by rw [bP (by omega) (by omega)]; rfl
    have hw2:IntKind.i64.wrap (z + 1) = z + 1:=bP (by omega) (by omega)
    refine cR [0] (sp_mail_Send (some (b,0)) (Mail.sends bs f e n).2 f n e ?_) s1 rfl fun r h2 s2=>?_
    · intro l hl
      rw [Int.toNat_natCast,Mail.sends_ge bs f e n n (Nat.le_refl _)] at hl
      exact hf l (List.mem_of_getElem? hl)
    obtain ⟨rfl,s3⟩:=bu.1 s2
    refine aY (fun k2=>?_) (fun k2=>?_)
    · have e1:Mail.sends bs f e (n + 1) = ((Mail.sends bs f e n).1 + 1,(Mail.send (Mail.sends bs f e n).2 f n e).2):=by rw [Mail.sends,if_pos k2]
      rw [hw,hw2]
      refine ⟨⟨n + 1,rfl,hlt,?_,by simp only; omega,by simp only; omega,?_⟩,by simp; omega⟩
      · rw [e1,hz]
      · rw [e1]; exact s3
    · have e1:Mail.sends bs f e (n + 1) = ((Mail.sends bs f e n).1,(Mail.send (Mail.sends bs f e n).2 f n e).2):=by rw [Mail.sends,if_neg (by rw [k2]; exact Bool.false_ne_true)]
      rw [hw]
      refine ⟨⟨n + 1,rfl,hlt,?_,by simp only; omega,by simp only; omega,?_⟩,by simp; omega⟩
      · rw [e1,hz]
      · rw [e1]; exact s3
  · have:n = bs.length:=by rw [hs] at k; simp at k; omega
    subst this
    exact aZ hz s1
theorem sp_mail_Waits (x:Ptr) (bs:Mail.S) (c:Int):Sp Tryz.prog li [pv x,.int .i64 c] eJ [jx x bs] (fun r=>pa_ (r = Mail.waits bs c) [jx x bs]):=by
  intro h s0
  refine sim_mail_Mail_Waits _ _ ?_
  unfold sY
  refine cR [0] (sp_mail_is x bs c) s0 rfl fun r h1 s1=>?_
  obtain ⟨rfl,s2⟩:=bu.1 s1
  refine aY (fun k=>?_) (fun k=>?_)
  · have k':Mail.has bs c = false:=by simpa using k
    exact aZ (by simp [Mail.waits,k']) s2
  · have k':Mail.has bs c = true:=by simpa using k
    obtain ⟨n,rfl,hn⟩:=has_nat k'
    obtain ⟨b,s,ss,rfl,hss,hb,hs,st⟩:=mail_op s2
    have hns:n < ss.length:=by omega
    refine cE (bp s st (i:=0) rfl rfl rfl ?_)
    refine du st (j:=1) rfl (by omega) (by omega) fun q hq=>?_
    refine dU (j:=1) (i:=n) (k:=0) ss[n] rC st rfl hq (by simp) (aD hns) (by simp) ?_
    have st1:=jq (aD hns) (aD hn) (bc [2] st rfl)
    have hl:=(ce (j:=0) st1 rfl).1
    exact aZ (by simp [Mail.waits,k',Mail.box,hn,hl]) s2
theorem sp_mail_Take (x:Ptr) (bs:Mail.S) (c:Int):Sp Tryz.prog mj [pv x,.int .i64 c] bM [jx x bs] (fun r=>pa_ (r = (Mail.take bs c).1) [jx x (Mail.take bs c).2]):=by
  intro h s0
  refine sim_mail_Mail_Take _ _ ?_
  unfold uj
  refine cR [0] (sp_mail_Waits x bs c) s0 rfl fun r h1 s1=>?_
  obtain ⟨rfl,s2⟩:=bu.1 s1
  refine aY (fun k=>?_) (fun k=>?_)
  · have k':Mail.waits bs c = 0:=by simpa using k
    have e1:Mail.take bs c = ((0,false),bs):=if_pos k'
    rw [e1]
    exact aZ rfl s2
  · have k':¬ Mail.waits bs c = 0:=by simpa using k
    have e1:Mail.take bs c = (((Mail.box bs c).getD 0 0,true),bs.set c.toNat ((Mail.box bs c).drop 1)):=if_neg k'
    rw [e1]
    have hh:Mail.has bs c = true:=by
      unfold Mail.waits at k'
      cases e:Mail.has bs c with
      | true=>rfl
      | false=>rw [e] at k'; exact absurd rfl k'
    obtain ⟨n,rfl,hn⟩:=has_nat hh
    obtain ⟨b,s,ss,rfl,hss,hb,hs,st⟩:=mail_op s2
    have hns:n < ss.length:=by omega
    have hg:Mail.box bs n = bs[n]:=by simp [Mail.box,hn]
    have h0:0 < bs[n].length:=by
      unfold Mail.waits at k'
      rw [hh,hg] at k'
      simp at k'
      exact List.length_pos_iff.2 k'
    rw [hg]
    refine cE (bp s st (i:=0) rfl rfl rfl ?_)
    refine du st (j:=1) rfl (by omega) (by omega) fun q hq=>?_
    refine dU (j:=1) (i:=n) (k:=0) ss[n] rC st rfl hq (by simp) (aD hns) (by simp) ?_
    have st1:=jq (aD hns) (aD hn) (bc [2] st rfl)
    refine du st1 (j:=0) rfl (by omega) (by omega) fun q1 hq1=>?_
    refine dU (j:=0) (i:=0) (k:=0) bs[n][0] (dm _) st1 rfl hq1 (by simp) (aD h0) (by simp) ?_
    refine bp s st1 (i:=2) rfl rfl rfl ?_
    refine du st1 (j:=3) rfl (by omega) (by omega) fun q2 hq2=>?_
    refine dU (j:=3) (i:=n) (k:=0) ss[n] rC st1 rfl hq2 (by simp) (aD hns) (by simp) ?_
    have fin:∀ (v:Sl) (h:Hp),aF [vU v (bs[n].drop 1),but vU ss bs n,blk b lu [sv s],vec be 1 cS s ss] h →
        ix s n (fun q33=>Mb.st (q33.1,q33.2 + Int.toNat n * 1) [sv v]<|pa_ ((bs[n][0],true) = ((bs[n].getD 0 0,true):Int × Bool)) [jx (some (b,0)) (bs.set n (bs[n].drop 1))]) h:=by
      intro v h s7
      refine du s7 (j:=3) rfl (by omega) (by omega) fun q3 hq3=>?_
      refine st_v (j:=3) (i:=n) (k:=0) v rC s7 rfl hq3 (by simp) (aD hns) (by simp) rfl fun h8 s8=>?_
      have s9:=all_in2 (y:=bs[n].drop 1) hn hss s8
      exact aZ (by simp [h0]) (mail_cl (by simpa using hss) (by simpa using hb) (bc [1,1] s9 rfl))
    refine ⟨?_,?_⟩
    · refine bp s st1 (i:=2) rfl rfl rfl ?_
      refine sliceFrom_v (i:=0) (n:=1) ge (dm _) rfl st1 rfl h0 fun v s5=>?_
      exact fin v _ s5
    · refine sliceFrom_v (i:=0) (n:=1) ge (dm _) rfl st1 rfl h0 fun v s5=>?_
      refine bp s s5 (i:=2) rfl rfl rfl ?_
      exact fin v _ s5
end Go.Proofs.YtemoifebbhoinaaGreatDoor
namespace Go.Proofs.YtemoifebbhoinaaGreatDoor
open Go Mb
set_option linter.unusedVariables false
def td (a0:Ptr) (a1:Int) (K:Bool→Hp→Prop):Hp→Prop:=br ((!a0.isNone) && (decide (a1 ≥ 0))) ( nn a0 fun q14=>ld (q14.1,q14.2 + 1) cS fun x16=>K (decide (a1 < (x16.len:Int)))) ( K false)
theorem sim_epoch_Epochs_is (a0:Ptr) (a1:Int) {K:Bool→Hp→Prop} {h:Hp} (H:td a0 a1 K h):Ct Tryz.prog lm #[(pv a0),(.int .i64 a1)] h fun v h'=>∃ r,v = aA r∧K r h':=aw [(pv a0),(.int .i64 a1)] Tryz.func118 c c c fun _=>M<|O c<|M<|J c<|p (v_pneT Tryz.underlying106 c)<|J c<|V c c (ay _) (fun g1=>wv<|ag c)<|V c c (ay _) (fun g2=>wv<|ij (az c g2) c)<|p (bO c c)<|J c<|V c c (ay _) (fun g3=>wv<|ag c)<|V c c (ay _) (fun g4=>wv<|ag c)<|bT H (fun k6 H7=>bI H7 fun q14 e8 H9=>G (Y k6)<|z_p (aL<|aK (az c k6)<|aq e8)<|G (Y k6)<|z_p (ae fld_167_1 c)<|G (Y k6)<|aW H9 sc_93 c (fun _=>c) c fun x16 H10=>G (Y k6)<|z_p (dl c Tryz.underlying93 c)<|G (Y k6)<|z_p (cq (az c k6) c)<|p (aI c k6 c)<|O c<|ah<|D ⟨decide (a1 < (x16.len:Int)),c,H10⟩) fun k6 H7=>W (aJ k6)<|W (aJ k6)<|W (aJ k6)<|W (aJ k6)<|W (aJ k6)<|p (ao c k6 c)<|O c<|ah<|D ⟨false,c,H7⟩
def rR (a0:Ptr) (K:Int→Hp→Prop):Hp→Prop:=br a0.isNone ( K 0) ( nn a0 fun q6=>ld (q6.1,q6.2 + 0) cS fun x8=>K (IntKind.u64.wrap (x8.len:Int)))
theorem sim_epoch_Epochs_Now (a0:Ptr) {K:Int→Hp→Prop} {h:Hp} (H:rR a0 K h):Ct Tryz.prog gb #[(pv a0)] h fun v h'=>∃ r,v = gU r∧K r h':=aw [(pv a0)] Tryz.func119 c c c fun _=>M<|O c<|ak<|M<|J c<|p (cr Tryz.underlying106 c)<|ad<|av c H (fun k1 H2=>M<|O c<|ah<|D ⟨0,c,H2⟩) fun k1 H2=>an<|M<|J c<|bI H2 fun q6 e3 H4=>p (aL<|aK c<|aq e3)<|p (ae fld_167_0 c)<|aa<|aW H4 sc_39 c (fun _=>c) c fun x8 H5=>p (dl c Tryz.underlying39 c)<|p (eB ⟨_,Tryz.underlying3⟩ Tryz.underlying22 c)<|O c<|ah<|D ⟨IntKind.u64.wrap (x8.len:Int),c,H5⟩
def pS (a0:Ptr) (a1:Int) (K:(Int × Bool)→Hp→Prop):Hp→Prop:=cl Tryz.prog lm [(pv a0),(.int .i64 a1)] aA fun r8=>br (!r8) ( K (0,false)) ( nn a0 fun q12=>ld (q12.1,q12.2 + 0) cS fun x14=>hpv Tryz.prog (Instr.buildSlice dK 1 #[(0,(.int .i64 a1))]) cG fun (v16:Sl)=>hpv Tryz.prog (Builtin.append_ #[dK,dK] dK #[(sv x14),(sv v16)]) cG fun (v17:Sl)=>st (q12.1,q12.2 + 0) [sv v17]<|cl Tryz.prog gb [(.pointer (some ⟨q12.1,q12.2,none⟩))] gU fun r21=>K (r21,true))
theorem wV (a0:Ptr) (a1:Int) {K:(Int × Bool)→Hp→Prop} {h:Hp} (H:pS a0 a1 K h):Ct Tryz.prog jj #[(pv a0),(.int .i64 a1)] h fun v h'=>∃ r,v = bM r∧K r h':=aw [(pv a0),(.int .i64 a1)] Tryz.func69 c c c fun _=>M<|p (ar c)<|O c<|ak<|M<|J c<|J c<|aa<|F H en_118 fun r8 _ H1=>p (ct c)<|ad<|av c H1 (fun k2 H3=>M<|p (ar c)<|O c<|ah<|bA (bV c (cf c)<|cf c) ⟨(0,false),c,H3⟩) fun k2 H3=>an<|M<|J c<|J c<|bI H3 fun q12 e4 H5=>p (aL<|aK c<|aq e4)<|p (ae fld_167_0 c)<|aa<|aW H5 sc_39 c (fun _=>c) c fun x14 H6=>J c<|aa<|aU H6 (bz (vs:=[(.int .i64 a1)]) c) c fun v16 _ H7=>aa<|aU H7 (dJ c c) c fun v17 _ H8=>p (aL<|aK c<|aq e4)<|p (ae fld_167_0 c)<|aa<|dh inf_39 c c c c c H8 fun _ H9=>ad<|M<|J (aK c<|aq e4)<|aa<|F H9 en_119 fun r21 _ H10=>p (ar c)<|O c<|ah<|bA (bV c (cf c)<|cf c) ⟨(r21,true),c,H10⟩
def dx (Rec13:(Sl × Int)→Hp→Prop) (s12:Sl × Int) (s21:Bool):Hp→Prop:=br s21 ( hpv Tryz.prog (Instr.buildSlice dK 1 #[(0,(.int .i64 s12.2))]) cG fun (v43:Sl)=>hpv Tryz.prog (Builtin.append_ #[dK,dK] dK #[(sv s12.1),(sv v43)]) cG fun (v44:Sl)=>Rec13 (v44,(IntKind.i64.wrap (s12.2 + 1)))) ( Rec13 (s12.1,(IntKind.i64.wrap (s12.2 + 1))))
def kZ (a1:Int) (K:Sl→Hp→Prop) (q17:Nat × Nat) (x19:Sl) (Rec13:(Sl × Int)→Hp→Prop) (s12:Sl × Int):Hp→Prop:=br (decide (s12.2 < (x19.len:Int))) ( ix x19 s12.2 fun q24=>ld (q24.1,q24.2 + Int.toNat s12.2 * 1) (cI .u64) fun x25=>br (decide (x25 < a1)) ( ld (q17.1,q17.2 + 0) cS fun x33=>ix x33 (IntKind.u64.wrap (a1 - 1)) fun q36=>ld (q36.1,q36.2 + Int.toNat (IntKind.u64.wrap (a1 - 1)) * 1) (cI .i64) fun x37=>dx Rec13 s12 (x37 != s12.2)) ( dx Rec13 s12 false)) ( K s12.1)
def pR (a0:Ptr) (a1:Int) (K:Sl→Hp→Prop):Hp→Prop:=br (!(decide (a1 < 1))) ( cl Tryz.prog gb [(pv a0)] gU fun r13=>br (decide (a1 > r13)) ( K (⟨none,0,0,none⟩:Sl)) ( nn a0 fun q17=>ld (q17.1,q17.2 + 1) cS fun x19=>Lp (kZ a1 K q17 x19) ((⟨none,0,0,none⟩:Sl),0))) ( K (⟨none,0,0,none⟩:Sl))
theorem wU (a0:Ptr) (a1:Int) {K:Sl→Hp→Prop} {h:Hp} (H:pR a0 a1 K h):Ct Tryz.prog ji #[(pv a0),(.int .u64 a1)] h fun v h'=>∃ r,v = cG r∧K r h':=aw [(pv a0),(.int .u64 a1)] Tryz.func121 c c c fun _=>M<|O c<|ak<|M<|J c<|p (cq c c)<|J c<|V c c (aG _) (fun g1=>wv<|ag c)<|V c c (aG _) (fun g2=>wv<|ag c)<|bT H (fun k4 H5=>G (Y<|bN k4)<|gm H5 en_119 (aT (az c k4) bW) c fun r13 _ H6=>G (Y<|bN k4)<|z_p (kP (az c k4) c)<|p (ao c (bN k4) c)<|ad<|av c H6 (fun k7 H8=>M<|O c<|ah<|D ⟨(⟨none,0,0,none⟩:Sl),c,H8⟩) fun k7 H8=>an<|M<|O c<|ak<|M<|J c<|bI H8 fun q17 e9 H10=>p (aL<|aK c<|aq e9)<|p (ae fld_167_1 c)<|aa<|aW H10 sc_93 c (fun _=>c) c fun x19 H11=>p (dl c Tryz.underlying93 c)<|J c<|ad<|ax<|bG (step:=kZ a1 K q17 x19) (fun s12=>[(0,(pv a0)),(1,(.int .u64 a1)),(5,(sv s12.1)),(19,(sv x19)),(20,(.int .i64 (x19.len:Int))),(21,(.int .i64 s12.2))]) (fun s12=>[]) H11 (.cons c<|.cons c<|.cons c<|.cons c<|.cons c<|.cons c<|.nil _) .slnil fun Rec13 s12 _ H14=>M<|p (cq c c)<|ad<|ak<|av c H14 (fun k15 H16=>an<|ak<|ax<|M<|J c<|ck H16 fun q24 e17 h18 H19=>p (bh wH (aK c<|aX e17) c h18)<|aa<|aW H19 cy c (fun _=>c) c fun x25 H20=>p (ar c)<|O c<|eG (dx Rec13 s12) (fun s21=>[(0,(pv a0)),(1,(.int .u64 a1)),(5,(sv s12.1)),(6,(.int .i64 s12.2)),(19,(sv x19)),(20,(.int .i64 (x19.len:Int))),(21,(.int .i64 s12.2)),(40,(.bool s21))]) (fun s21=>[]) (ap<|J c<|J c<|p (cq c c)<|J c<|V c c (ay _) (fun g27=>wv<|ag<|aK c<|aq e9)<|V c c (ay _) (fun g28=>wv<|aL<|az c g28)<|V c c (ay _) (fun g29=>wv<|ae fld_167_0<|az c g29)<|bT H20 (fun k31 H32=>G (Y k31)<|aW H32 sc_39 (az c k31) (fun _=>c) c fun x33 H33=>G (Y k31)<|z_p (ag c)<|G (Y k31)<|z_p (vp c c)<|ck H33 fun q36 e34 h35 H36=>G (Y k31)<|z_p (bh iP (aK c<|aX e34) c h35)<|G (Y k31)<|aW H36 aS c (fun _=>c) c fun x37 H37=>G (Y k31)<|z_p (ag c)<|G (Y k31)<|z_p (qH c c)<|p (aI c k31 c)<|ad<|cz (x37 != s12.2) H37 (.cons c<|.cons c<|.cons c<|.cons c<|.cons c<|.cons c<|.cons c<|.cons c<|.nil _) .slnil) fun k31 H32=>W (aJ k31)<|W (aJ k31)<|W (aJ k31)<|W (aJ k31)<|W (aJ k31)<|W (aJ k31)<|W (aJ k31)<|p (ao c k31 c)<|ad<|cz false H32 (.cons c<|.cons c<|.cons c<|.cons c<|.cons c<|.cons c<|.cons c<|.cons c<|.nil _) .slnil) fun s21 _ H22=>av c H22 (fun k23 H24=>ap<|J c<|J c<|aa<|aU H24 (bz (vs:=[(.int .i64 s12.2)]) c) c fun v43 _ H25=>aa<|aU H25 (dJ c c) c fun v44 _ H26=>O c<|ap<|p (bn c c)<|J c<|ad<|cM (v44,(IntKind.i64.wrap (s12.2 + 1))) H26 (.cons c<|.cons c<|.cons c<|.cons c<|.cons c<|.cons c<|.nil _) .slnil) fun k23 H24=>an<|ap<|p (bn c c)<|J c<|ad<|cM (s12.1,(IntKind.i64.wrap (s12.2 + 1))) H24 (.cons c<|.cons c<|.cons c<|.cons c<|.cons c<|.cons c<|.nil _) .slnil) fun k15 H16=>bj<|M<|J c<|O c<|ah<|D ⟨s12.1,c,H16⟩) fun k4 H5=>W (bb<|bo k4)<|W (bb<|bo k4)<|p (aI c (bo k4) c)<|ad<|fG c c<|M<|O c<|ah<|D ⟨(⟨none,0,0,none⟩:Sl),c,H5⟩
def qW (a0:Ptr) (a1:Int) (K:Bool→Hp→Prop):Hp→Prop:=br (decide (a1 ≥ 1)) ( cl Tryz.prog gb [(pv a0)] gU fun r10=>br (decide (a1 ≤ r10)) ( cl Tryz.prog ji [(pv a0),(.int .u64 a1)] cG fun r16=>K ((r16.len:Int) == 0)) ( K false)) ( K false)
theorem sim_epoch_Epochs_Done (a0:Ptr) (a1:Int) {K:Bool→Hp→Prop} {h:Hp} (H:qW a0 a1 K h):Ct Tryz.prog jB #[(pv a0),(.int .u64 a1)] h fun v h'=>∃ r,v = aA r∧K r h':=aw [(pv a0),(.int .u64 a1)] Tryz.func71 c c c fun _=>M<|O c<|M<|J c<|p (ij c c)<|J c<|V c c (ay _) (fun g1=>wv<|ag c)<|V c c (ay _) (fun g2=>wv<|ag c)<|bT H (fun k4 H5=>G (Y k4)<|gm H5 en_119 (aT (az c k4) bW) c fun r10 _ H6=>G (Y k4)<|z_p (v_le (az c k4) c)<|p (aI c k4 c)<|J c<|V c c (ay _) (fun g7=>wv<|ag c)<|V c c (ay _) (fun g8=>wv<|ag c)<|bT H6 (fun k10 H11=>G (Y k10)<|gm H11 en_121 (aT (az c k10)<|aT (az c k10) bW) c fun r16 _ H12=>G (Y k10)<|z_p (dl c Tryz.underlying39 c)<|G (Y k10)<|z_p (bH c c)<|p (aI c k10 c)<|O c<|ah<|D ⟨((r16.len:Int) == 0),c,H12⟩) fun k10 H11=>W (aJ k10)<|W (aJ k10)<|W (aJ k10)<|p (ao c k10 c)<|O c<|ah<|D ⟨false,c,H11⟩) fun k4 H5=>W (aJ k4)<|W (aJ k4)<|p (ao c k4 c)<|J c<|W c<|W c<|W c<|W c<|W c<|p (ao c c c)<|O c<|ah<|D ⟨false,c,H5⟩
def rS (a0:Ptr) (a1:Int) (a2:Int) (K:Bool→Hp→Prop):Hp→Prop:=cl Tryz.prog lm [(pv a0),(.int .i64 a1)] aA fun r9=>br (!((!r9) || (decide (a2 < 1)))) ( cl Tryz.prog gb [(pv a0)] gU fun r18=>br (decide (a2 > r18)) ( K false) ( nn a0 fun q22=>ld (q22.1,q22.2 + 1) cS fun x29=>ix x29 a1 fun q31=>ld (q31.1,q31.2 + Int.toNat a1 * 1) (cI .u64) fun x32=>ld (q22.1,q22.2 + 1) cS fun x24=>ix x24 a1 fun q35=>st (q35.1,q35.2 + Int.toNat a1 * 1) [.int .u64 (mx x32 a2)]<|K true)) ( K false)
theorem sim_epoch_Epochs_Ack (a0:Ptr) (a1:Int) (a2:Int) {K:Bool→Hp→Prop} {h:Hp} (H:rS a0 a1 a2 K h):Ct Tryz.prog kv #[(pv a0),(.int .i64 a1),(.int .u64 a2)] h fun v h'=>∃ r,v = aA r∧K r h':=aw [(pv a0),(.int .i64 a1),(.int .u64 a2)] Tryz.func98 c c c fun _=>M<|O c<|ak<|M<|J c<|J c<|aa<|F H en_118 fun r9 _ H1=>p (ct c)<|J c<|V c c (aG _) (fun g2=>wv<|ag c)<|V c c (aG _) (fun g3=>wv<|cq (az c g3) c)<|p (cZ c c)<|J c<|V c c (aG _) (fun g4=>wv<|ag c)<|V c c (aG _) (fun g5=>wv<|ag c)<|bT H1 (fun k7 H8=>G (Y<|bN k7)<|gm H8 en_119 (aT (az c k7) bW) c fun r18 _ H9=>G (Y<|bN k7)<|z_p (kP (az c k7) c)<|p (ao c (bN k7) c)<|ad<|av c H9 (fun k10 H11=>M<|O c<|ah<|D ⟨false,c,H11⟩) fun k10 H11=>an<|ak<|bm (n:=16) [] cn c .slnil<|U 0 c (ag c)<|U 4 c (ag c)<|U 5 c (ag c)<|U 9 c (ag c)<|U 12 c (ag c)<|hO H11 fun q22 e12 H13=>U 1 c (aL<|aK c<|aq e12)<|U 2 c (ae fld_167_1 c)<|U 6 c (aL<|aK c<|aq e12)<|U 7 c (ae fld_167_1 c)<|bJ (i:=8) (fun _ _ _ _ hh=>hh) H13 c (by kernel_rfl) sc_93 c (fun _=>c) c fun x29 H14=>fF H14 fun q31 e15 h16 H17=>U 10 c (bh wH (aK c<|aX e15) c h16)<|bJ (i:=11) (fun _ _ _ _ hh=>hh) H17 c (by kernel_rfl) cy c (fun _=>c) c fun x32 H18=>U 13 c (v_maxT c c)<|bJ (i:=3) (fun _ _ _ _ hh=>hh) H18 c (by kernel_rfl) sc_93 c (fun _=>c) c fun x24 H19=>fF H19 fun q35 e20 h21 H22=>U 14 c (bh wH (aK c<|aX e20) c h21)<|R 15 c<|dh inf_22 c c c c c H22 fun _ H23=>⟨.slnil,aO (by kernel_rfl)<|M<|O c<|ah<|D ⟨true,c,H23⟩⟩) fun k7 H8=>W (bb<|bo k7)<|W (bb<|bo k7)<|p (aI c (bo k7) c)<|ad<|fG c c<|M<|O c<|ah<|D ⟨false,c,H8⟩
def sh_epoch_New (a0:Int) (K:Ptr→Hp→Prop):Hp→Prop:=br ((decide (a0 < 1)) || (decide (a0 > 8))) ( K none) ( hpv Tryz.prog (Instr.makeSlice be (.int .i64 a0) (.int .i64 a0)) cg fun (v10:Sl)=>nw ip (jV.C (⟨(⟨none,0,0,none⟩:Sl),v10⟩:jV)) fun b12=>K (some (b12,0)))
theorem sim_epoch_New (a0:Int) {K:Ptr→Hp→Prop} {h:Hp} (H:sh_epoch_New a0 K h):Ct Tryz.prog oh #[(.int .i64 a0)] h fun v h'=>∃ r,v = iV r∧K r h':=aw [(.int .i64 a0)] Tryz.func58 c c c fun _=>M<|O c<|ak<|M<|J c<|p (cq c c)<|J c<|V c c (aG _) (fun g1=>wv<|ag c)<|V c c (aG _) (fun g2=>wv<|kP (az c g2) c)<|p (cZ c c)<|ad<|av c H (fun k3 H4=>M<|O c<|ah<|D ⟨none,c,H4⟩) fun k3 H4=>an<|M<|J c<|aa<|aU H4 (jX c c) c fun v10 _ H5=>p (bd c<|build_167_1 v10)<|aa<|io c c c H5 fun b12 _ H6=>O c<|ah<|D ⟨some (b12,0),c,H6⟩
end Go.Proofs.YtemoifebbhoinaaGreatDoor
namespace Go.Proofs.YtemoifebbhoinaaGreatDoor
open Go Mb
def fh (x:Ptr) (e:List Int × List Int):As:=fun h=>∃ bs:Nat × Sl × Sl,(x = some (bs.1,0)∧e.2.length ≤ 8∧e.1.length < 2 ^ 38)∧aF [blk bs.1 ip [sv bs.2.1,sv bs.2.2],vI bs.2.1 e.1,vU bs.2.2 e.2] h
theorem ep_op {x:Ptr} {e:List Int × List Int} {l:List As} {h:Hp} (s0:aF (fh x e::l) h):∃ b s t,x = some (b,0)∧e.2.length ≤ 8∧e.1.length < 2 ^ 38∧s.len = e.1.length∧t.len = e.2.length∧aF (blk b ip [sv s,sv t]::vI s e.1::vU t e.2::l) h:=by
  obtain ⟨⟨b,s,t⟩,⟨hx,h1,h2⟩,st⟩:=op_ s0
  exact ⟨b,s,t,hx,h1,h2,(ce (j:=1) st rfl).1,(ce (j:=2) st rfl).1,st⟩
theorem ep_cl {b:Nat} {s t:Sl} {e1 e2:List Int} {l:List As} {h:Hp} (h1:e2.length ≤ 8) (h2:e1.length < 2 ^ 38) (st:aF (blk b ip [sv s,sv t]::vI s e1::vU t e2::l) h):aF (fh (some (b,0)) (e1,e2)::l) h :=
  cl_ (m:=fun bs:Nat × Sl × Sl=>[blk bs.1 ip [sv bs.2.1,sv bs.2.2],vI bs.2.1 (e1,e2).1,vU bs.2.2 (e1,e2).2]) (b,s,t) ⟨rfl,h1,h2⟩ st
namespace Epochs
abbrev S:=List Int × List Int
def is (e:S) (c:Int):Bool:=decide (0 ≤ c∧c < e.2.length)
def now (e:S):Int:=e.1.length
def begin_ (e:S) (c:Int):(Int × Bool) × S:=if is e c then ((e.1.length + 1,true),(e.1++[c],e.2)) else ((0,false),e)
def ack (e:S) (c n:Int):Bool × S:=if is e c = true∧¬ n < 1∧¬ n > now e then (true,(e.1,e.2.set c.toNat (mx (e.2.getD c.toNat 0) n))) else (false,e)
def waitsFrom (n o:Int):List Int→Int→List Int
  | [],_=>[]
  | a::l,i=>if a < n∧o ≠ i then i::waitsFrom n o l (i + 1) else waitsFrom n o l (i + 1)
def waits (e:S) (n:Int):List Int:=if n < 1∨n > now e then [] else waitsFrom n (e.1.getD (n - 1).toNat 0) e.2 0
def done (e:S) (n:Int):Bool:=decide (n ≥ 1) && decide (n ≤ now e) && decide (waits e n = [])
end Epochs
theorem wrapU {n:Int} (h0:0 ≤ n) (h1:n < 2^64):IntKind.u64.wrap n = n:=by
  simp only [IntKind.wrap]; first | omega | (simp [IntKind.bits,IntKind.signed]; omega)
theorem sg (n:Int) (h1:¬ n < 1) (h2:¬ n > 8):Sp Tryz.prog oh [.int .i64 n] iV [] (fun r=>aF [fh r ([],List.replicate n.toNat 0)]):=by
  intro h st
  refine sim_epoch_New _ ?_
  unfold sh_epoch_New
  obtain ⟨m,rfl⟩:=Int.eq_ofNat_of_zero_le (show 0 ≤ n by omega)
  refine dI (by simp; omega) ?_
  refine ol (τ:=Int) (x0:=0) (enc:=cI .u64) (n:=m) ge rfl st ?_ ?_ ?_
  · omega
  · omega
  · intro v h' s1
    refine pD s1 fun b h'' s2=>?_
    exact ep_cl (by simp; omega) (by simp) (bc [1] (fR s2) rfl)
theorem sp_epoch_is (x:Ptr) (e:Epochs.S) (c:Int):Sp Tryz.prog lm [pv x,.int .i64 c] aA [fh x e] (fun r=>pa_ (r = Epochs.is e c) [fh x e]):=by
  intro h s0
  obtain ⟨b,s,t,rfl,hb,he,hs,ht,st⟩:=ep_op s0
  refine sim_epoch_Epochs_is _ _ ?_
  unfold td
  refine aY (fun k=>?_) (fun k=>?_)
  · have k':0 ≤ c:=by simpa using k
    refine cE (bp t st (i:=0) rfl rfl rfl ?_)
    exact aZ (by simp [Epochs.is,k',ht]) s0
  · have k':¬ 0 ≤ c:=by simpa using k
    exact aZ (by simp [Epochs.is]; intro h; exact absurd h k') s0
theorem sf (x:Ptr) (e:Epochs.S):Sp Tryz.prog gb [pv x] gU [fh x e] (fun r=>pa_ (r = Epochs.now e) [fh x e]):=by
  intro h s0
  obtain ⟨b,s,t,rfl,hb,he,hs,ht,st⟩:=ep_op s0
  refine sim_epoch_Epochs_Now _ ?_
  unfold rR
  refine dI rfl (cE (bp s st (i:=0) rfl rfl rfl ?_))
  exact aZ (by rw [wrapU (by omega) (by omega),hs]; rfl) s0
theorem sp_epoch_Begin (x:Ptr) (e:Epochs.S) (c:Int) (hl:e.1.length < 2 ^ 37):Sp Tryz.prog jj [pv x,.int .i64 c] bM [fh x e] (fun r=>pa_ (r = (Epochs.begin_ e c).1) [fh x (Epochs.begin_ e c).2]):=by
  intro h s0
  refine wV _ _ ?_
  unfold pS
  refine cR [0] (sp_epoch_is x e c) s0 rfl fun r h1 s1=>?_
  obtain ⟨hr,s2⟩:=bu.1 s1
  subst hr
  refine aY (fun k=>?_) (fun k=>?_)
  · have k':Epochs.is e c = false:=by simpa using k
    have e1:Epochs.begin_ e c = ((0,false),e):=by unfold Epochs.begin_; rw [k']; rfl
    rw [e1]
    exact aZ rfl s2
  · have k':Epochs.is e c = true:=by simpa using k
    have e1:Epochs.begin_ e c = (((e.1.length:Int) + 1,true),(e.1++[c],e.2)):=if_pos k'
    rw [e1]
    obtain ⟨b,s,t,rfl,hb,he,hs,ht,st⟩:=ep_op s2
    refine cE (bp s st (i:=0) rfl rfl rfl ?_)
    refine wt st (i:=1) rfl (by omega) fun v h3 s3=>?_
    refine tT (i:=0) s3 rfl (show 0 + 0 + 1 ≤ 2 by decide) fun h4 s4=>?_
    have s5:=ep_cl (e1:=e.1++[c]) (e2:=e.2) hb (by simp; omega) s4
    refine cR [0] (sf (some (b,0)) (e.1++[c],e.2)) s5 rfl fun r h6 s6=>?_
    obtain ⟨hr,s7⟩:=bu.1 s6
    subst hr
    exact aZ (by simp [Epochs.now]) s7
theorem sp_epoch_Ack (x:Ptr) (e:Epochs.S) (c n:Int):Sp Tryz.prog kv [pv x,.int .i64 c,.int .u64 n] aA [fh x e] (fun r=>pa_ (r = (Epochs.ack e c n).1) [fh x (Epochs.ack e c n).2]):=by
  intro h s0
  refine sim_epoch_Epochs_Ack _ _ _ ?_
  unfold rS
  refine cR [0] (sp_epoch_is x e c) s0 rfl fun r h1 s1=>?_
  obtain ⟨hr,s2⟩:=bu.1 s1
  subst hr
  have no:¬ (Epochs.is e c = true∧¬ n < 1∧¬ n > Epochs.now e)→Epochs.ack e c n = (false,e):=fun hh=>if_neg hh
  refine aY (fun k=>?_) (fun k=>?_)
  · have k':Epochs.is e c = true∧¬ n < 1:=by simpa using k
    refine cR [0] (sf x e) s2 rfl fun r h3 s3=>?_
    obtain ⟨hr,s4⟩:=bu.1 s3
    subst hr
    refine aY (fun k2=>?_) (fun k2=>?_)
    · rw [no (fun hh=>hh.2.2 (by simpa using k2))]
      exact aZ rfl s4
    · have k2':¬ n > Epochs.now e:=by simpa using k2
      have e1:Epochs.ack e c n = (true,(e.1,e.2.set c.toNat (mx (e.2.getD c.toNat 0) n))):=if_pos ⟨k'.1,k'.2,k2'⟩
      rw [e1]
      obtain ⟨b,s,t,rfl,hb,he,hs,ht,st⟩:=ep_op s4
      have hc:=k'.1
      unfold Epochs.is at hc
      have hc':=of_decide_eq_true hc
      obtain ⟨m,rfl⟩:=Int.eq_ofNat_of_zero_le hc'.1
      have hm:m < e.2.length:=by omega
      refine cE (bp t st (i:=0) rfl rfl rfl ?_)
      refine du st (j:=2) rfl (by omega) (by omega) fun q hq=>?_
      refine dU (j:=2) (i:=m) (k:=0) e.2[m] (dm _) st rfl hq (by simp) (aD hm) (by simp) ?_
      refine bp t st (i:=0) rfl rfl rfl ?_
      refine du st (j:=2) rfl (by omega) (by omega) fun q2 hq2=>?_
      refine st_v (j:=2) (i:=m) (k:=0) (mx e.2[m] n) (dm _) st rfl hq2 (by simp) (aD hm) (by simp) rfl fun h5 s5=>?_
      have hg:e.2.getD (m:Int).toNat 0 = e.2[m]:=by simp [hm]
      rw [hg]
      exact aZ rfl (ep_cl (by simpa using hb) he s5)
  · have k':¬ (Epochs.is e c = true∧¬ n < 1):=by simp at k; simp; omega
    rw [no (fun hh=>k' ⟨hh.1,hh.2.1⟩)]
    exact aZ rfl s2
theorem ww (n o:Int):∀ (l:List Int) (i:Int) (a:Int),Epochs.waitsFrom n o (l++[a]) i = Epochs.waitsFrom n o l i++(if a < n∧o ≠ i + l.length then [i + l.length] else [])
  | [],i,a=>by simp only [List.nil_append,Epochs.waitsFrom]; split <;> simp_all
  | y::l,i,a=>by
    simp only [List.cons_append,Epochs.waitsFrom]
    rw [ww n o l (i + 1) a]
    have e:i + 1 + (l.length:Int) = i + ((y::l).length:Int):=by simp; omega
    rw [e]
    split <;> simp
theorem waits_len (n o:Int):∀ (l:List Int) (i:Int),(Epochs.waitsFrom n o l i).length ≤ l.length
  | [],_=>Nat.le_refl _
  | a::l,i=>by unfold Epochs.waitsFrom; have:=waits_len n o l (i + 1); split <;> simp <;> omega
theorem sp_epoch_Waits (x:Ptr) (e:Epochs.S) (n:Int):Sp Tryz.prog ji [pv x,.int .u64 n] cG [fh x e] (fun r=>aF [vI r (Epochs.waits e n),fh x e]):=by
  intro h s0
  refine wU _ _ ?_
  unfold pR
  have no:(n < 1∨n > Epochs.now e)→Epochs.waits e n = []:=fun hh=>if_pos hh
  refine aY (fun k=>?_) (fun k=>?_)
  · have k':¬ n < 1:=by simpa using k
    refine cR [0] (sf x e) s0 rfl fun r h3 s3=>?_
    obtain ⟨hr,s4⟩:=bu.1 s3
    subst hr
    refine aY (fun k2=>?_) (fun k2=>?_)
    · rw [no (.inr (by simpa using k2))]
      exact fR s4
    · have k2':¬ n > Epochs.now e:=by simpa using k2
      have e1:Epochs.waits e n = Epochs.waitsFrom n (e.1.getD (n - 1).toNat 0) e.2 0:=if_neg (by omega)
      rw [e1]
      obtain ⟨b,s,t,rfl,hb,he,hs,ht,st⟩:=ep_op s4
      obtain ⟨m,hm⟩:=Int.eq_ofNat_of_zero_le (show 0 ≤ n - 1 by omega)
      have hm':m < e.1.length:=by unfold Epochs.now at k2'; omega
      have hwu:IntKind.u64.wrap (n - 1) = m:=by rw [wrapU (by omega) (by omega),hm]
      have hg:e.1.getD (n - 1).toNat 0 = e.1[m]:=by rw [hm]; simp [hm']
      rw [hg]
      refine cE (bp t st (i:=0) rfl rfl rfl ?_)
      refine Lp.intro (fun (z:Sl × Int) h=>∃ k:Nat,z.2 = k∧k ≤ e.2.length∧aF [vI z.1 (Epochs.waitsFrom n e.1[m] (e.2.take k) 0),blk b ip [sv s,sv t],vI s e.1,vU t e.2] h) (fun (z:Sl × Int) _=>e.2.length - z.2.toNat) ⟨0,rfl,Nat.zero_le _,fR st⟩ ?_
      rintro ⟨z,i⟩ h ⟨k3,rfl,hk3,s5⟩
      unfold kZ
      refine aY (fun c=>?_) (fun c=>?_)
      · have hlt:k3 < e.2.length:=by rw [ht] at c; simpa using c
        have hw:IntKind.i64.wrap ((k3:Int) + 1) = ((k3 + 1:Nat):Int):=by rw [bP (by omega) (by omega)]; rfl
        have htk:e.2.take (k3 + 1) = e.2.take k3++[e.2[k3]]:=by simp
        have hlen:((e.2.take k3).length:Int) = k3:=by simp; omega
        have off:¬ (e.2[k3] < n∧e.1[m] ≠ k3)→dx (fun z' h'=>(∃ k:Nat,z'.2 = k∧k ≤ e.2.length∧aF [vI z'.1 (Epochs.waitsFrom n e.1[m] (e.2.take k) 0),blk b ip [sv s,sv t],vI s e.1,vU t e.2] h')∧e.2.length - z'.2.toNat < e.2.length - (k3:Int).toNat) (z,(k3:Int)) false h:=by
          intro hno
          unfold dx
          refine dI rfl ?_
          rw [hw]
          refine ⟨⟨k3 + 1,rfl,hlt,?_⟩,by simp; omega⟩
          rw [htk,ww,hlen,Int.zero_add,if_neg hno,List.append_nil]
          exact s5
        refine du s5 (j:=3) rfl (by omega) (by show (k3:Int) < _; omega) fun q hq=>?_
        refine dU (j:=3) (i:=k3) (k:=0) e.2[k3] (dm _) s5 rfl hq (by simp) (aD hlt) (by simp) ?_
        refine aY (fun c2=>?_) (fun c2=>?_)
        · have c2':e.2[k3] < n:=by simpa using c2
          refine bp s s5 (i:=1) rfl rfl rfl ?_
          rw [hwu]
          refine du s5 (j:=2) rfl (by omega) (by omega) fun q2 hq2=>?_
          refine dU (j:=2) (i:=m) (k:=0) e.1[m] (dm _) s5 rfl hq2 (by simp) (aD hm') (by simp) ?_
          by_cases hne:e.1[m] = (k3:Int)
          · have:(e.1[m] != (k3:Int)) = false:=by simp [hne]
            show dx _ _ (e.1[m] != (k3:Int)) h
            rw [this]
            exact off (fun hh=>hh.2 hne)
          · have:(e.1[m] != (k3:Int)) = true:=by simp [hne]
            show dx _ _ (e.1[m] != (k3:Int)) h
            rw [this]
            unfold dx
            refine dZ rfl ?_
            refine wt s5 (i:=0) rfl ?_ fun v h' s6=>?_
            · have:=waits_len n e.1[m] (e.2.take k3) 0; simp at this; omega
            · rw [hw]
              refine ⟨⟨k3 + 1,rfl,hlt,?_⟩,by simp; omega⟩
              rw [htk,ww,hlen,Int.zero_add,if_pos ⟨c2',hne⟩]
              exact s6
        · have c2':¬ e.2[k3] < n:=by simpa using c2
          exact off (fun hh=>c2' hh.1)
      · have:k3 = e.2.length:=by rw [ht] at c; simp at c; omega
        subst this
        rw [List.take_length] at s5
        exact star_tail s5 fun h6 s6=>ep_cl hb he s6
  · have k':n < 1:=by simpa using k
    rw [no (.inl k')]
    exact fR s0
theorem sp_epoch_Done (x:Ptr) (e:Epochs.S) (n:Int):Sp Tryz.prog jB [pv x,.int .u64 n] aA [fh x e] (fun r=>pa_ (r = Epochs.done e n) [fh x e]):=by
  intro h s0
  refine sim_epoch_Epochs_Done _ _ ?_
  unfold qW
  refine aY (fun k=>?_) (fun k=>?_)
  · have k':n ≥ 1:=by simpa using k
    refine cR [0] (sf x e) s0 rfl fun r h3 s3=>?_
    obtain ⟨hr,s4⟩:=bu.1 s3
    subst hr
    refine aY (fun k2=>?_) (fun k2=>?_)
    · refine cR [0] (sp_epoch_Waits x e n) s4 rfl fun r h5 s5=>?_
      have s6:=dE s5
      have hl:=(ce (j:=0) s6 rfl).1
      refine aZ ?_ (bZ (l:=[vI r (Epochs.waits e n)]) s6)
      have e1:decide (n ≥ 1) = true:=k
      have e2:decide (n ≤ Epochs.now e) = true:=k2
      rw [hl]
      unfold Epochs.done
      rw [e1,e2]
      cases Epochs.waits e n with
      | nil=>rfl
      | cons a l=>simp; omega
    · exact aZ (by unfold Epochs.done; rw [k2]; simp) s4
  · exact aZ (by unfold Epochs.done; rw [k]; rfl) s0
end Go.Proofs.YtemoifebbhoinaaGreatDoor
