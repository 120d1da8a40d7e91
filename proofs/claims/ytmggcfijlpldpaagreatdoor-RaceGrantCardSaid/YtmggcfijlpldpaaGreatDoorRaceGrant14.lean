/- Part of the proof of: The law RaceGrant returns true for every input, and leaves its arguments as they were. -/
import Derived.Test.YtmggcfijlpldpaaGreatDoorRaceGrant13
set_option linter.all false
set_option maxRecDepth 20000
namespace Go.Proofs.YtmggcfijlpldpaaGreatDoor
open Go Mb
set_option linter.unusedVariables false
def sh_ticket_New (K:Ptr→Hp→Prop):Hp→Prop:=cl Tryz.prog sT [(.int .u64 0)] oO fun r1=>cl Tryz.prog sT [(.int .u64 0)] oO fun r2=>nw mu (kl.C (⟨r1,r2⟩:kl)) fun b4=>K (some (b4,0))
theorem sim_ticket_New {K:Ptr→Hp→Prop} {h:Hp} (H:sh_ticket_New K h):Ct Tryz.prog wF #[] h fun v h'=>∃ r,v = tm r∧K r h':=aw [] Tryz.func203 c c c fun _=>M<|O c<|M<|aa<|D H en_202 fun r1 _ H1=>aa<|D H1 en_202 fun r2 _ H2=>p (aX c<|build_286_0_1 r1 r2)<|aa<|gT c c c H2 fun b4 _ H3=>O c<|ag<|Y ⟨some (b4,0),c,H3⟩
def ri (a0:Ptr) (K:Int→Hp→Prop):Hp→Prop:=br a0.isNone ( K 0) ( nn a0 fun q9=>ld (q9.1,q9.2 + 0) cP fun x11=>cl Tryz.prog oE [(pv x11),(.int .u64 18446744073709551615)] bG fun r12=>K (IntKind.u64.wrap (r12.1 - 1)))
theorem sim_ticket_Lock_Draw (a0:Ptr) {K:Int→Hp→Prop} {h:Hp} (H:ri a0 K h):Ct Tryz.prog mT #[(pv a0)] h fun v h'=>∃ r,v = gC r∧K r h':=aw [(pv a0)] Tryz.func205 c c c fun _=>M<|O c<|aj<|M<|J c<|p (ch Tryz.underlying266 c)<|ac<|av c H (fun k1 H2=>M<|O c<|ag<|Y ⟨0,c,H2⟩) fun k1 H2=>am<|M<|J c<|bC H2 fun q9 e3 H4=>p (aH<|aL c<|ao e3)<|p (ad fld_286_0 c)<|aa<|aT H4 sc_264 c (fun _=>c) c fun x11 H5=>aa<|D H5 en_204 fun r12 _ H6=>J c<|p (ai c c)<|p (ai c c)<|p (aq c)<|O c<|M<|J c<|p (v_sub c c)<|O c<|ag<|Y ⟨IntKind.u64.wrap (r12.1 - 1),c,H6⟩
def rg (a0:Ptr) (a1:Int) (K:Bool→Hp→Prop):Hp→Prop:=br (!a0.isNone) ( nn a0 fun q9=>ld (q9.1,q9.2 + 1) cP fun x11=>cl Tryz.prog lN [(pv x11)] gC fun r12=>br (r12 == a1) ( ld (q9.1,q9.2 + 0) cP fun x21=>cl Tryz.prog lN [(pv x21)] gC fun r22=>K (decide (a1 < r22))) ( K false)) ( K false)
theorem sim_ticket_Lock_Turn (a0:Ptr) (a1:Int) {K:Bool→Hp→Prop} {h:Hp} (H:rg a0 a1 K h):Ct Tryz.prog jJ #[(pv a0),(.int .u64 a1)] h fun v h'=>∃ r,v = az r∧K r h':=aw [(pv a0),(.int .u64 a1)] Tryz.func207 c c c fun _=>M<|O c<|M<|J c<|p (v_pneT Tryz.underlying266 c)<|J c<|V c c (ay _) (fun g1=>wv<|ae c)<|bP H (fun k3 H4=>bC H4 fun q9 e5 H6=>G (Z k3)<|z_p (aH<|aL (aB c k3)<|ao e5)<|G (Z k3)<|z_p (ad fld_286_1 c)<|G (Z k3)<|aT H6 sc_264 c (fun _=>c) c fun x11 H7=>G (Z k3)<|D H7 en_219 fun r12 _ H8=>G (Z k3)<|z_p (ae c)<|G (Z k3)<|z_p (bK c c)<|p (aM c k3 c)<|J c<|V c c (ay _) (fun g9=>wv<|ae c)<|V c c (ay _) (fun g10=>wv<|ae<|aL c<|ao e5)<|V c c (ay _) (fun g11=>wv<|aH<|aB c g11)<|V c c (ay _) (fun g12=>wv<|ad fld_286_0<|aB c g12)<|bP H8 (fun k14 H15=>G (Z k14)<|aT H15 sc_264 (aB c k14) (fun _=>c) c fun x21 H16=>G (Z k14)<|D H16 en_219 fun r22 _ H17=>G (Z k14)<|z_p (cm (aB c k14) c)<|p (aM c k14 c)<|O c<|ag<|Y ⟨decide (a1 < r22),c,H17⟩) fun k14 H15=>W (aP k14)<|W (aP k14)<|W (aP k14)<|p (an c k14 c)<|O c<|ag<|Y ⟨false,c,H15⟩) fun k3 H4=>W (aP k3)<|W (aP k3)<|W (aP k3)<|W (aP k3)<|W (aP k3)<|W (aP k3)<|p (an c k3 c)<|J c<|W c<|W c<|W c<|W c<|W c<|W c<|W c<|p (an c c c)<|O c<|ag<|Y ⟨false,c,H4⟩
def rh (a0:Ptr) (a1:Int) (K:Bool→Hp→Prop):Hp→Prop:=cl Tryz.prog jJ [(pv a0),(.int .u64 a1)] az fun r7=>br r7 ( nn a0 fun q10=>ld (q10.1,q10.2 + 1) cP fun x12=>cl Tryz.prog qU [(pv x12),(.int .u64 a1),(.int .u64 (IntKind.u64.wrap (a1 + 1)))] az fun r16=>K r16) ( K false)
theorem sim_ticket_Lock_Pass (a0:Ptr) (a1:Int) {K:Bool→Hp→Prop} {h:Hp} (H:rh a0 a1 K h):Ct Tryz.prog mS #[(pv a0),(.int .u64 a1)] h fun v h'=>∃ r,v = az r∧K r h':=aw [(pv a0),(.int .u64 a1)] Tryz.func208 c c c fun _=>M<|O c<|M<|J c<|J c<|aa<|D H en_207 fun r7 _ H1=>J c<|V c c (ay _) (fun g2=>wv<|ae c)<|bP H1 (fun k4 H5=>bC H5 fun q10 e6 H7=>G (Z k4)<|z_p (aH<|aL (aB c k4)<|ao e6)<|G (Z k4)<|z_p (ad fld_286_1 c)<|G (Z k4)<|aT H7 sc_264 c (fun _=>c) c fun x12 H8=>G (Z k4)<|z_p (ae c)<|G (Z k4)<|z_p (ae c)<|G (Z k4)<|z_p (bt c c)<|G (Z k4)<|D H8 en_220 fun r16 _ H9=>p (aM c k4 c)<|O c<|ag<|Y ⟨r16,c,H9⟩) fun k4 H5=>W (aP k4)<|W (aP k4)<|W (aP k4)<|W (aP k4)<|W (aP k4)<|W (aP k4)<|W (aP k4)<|p (an c k4 c)<|O c<|ag<|Y ⟨false,c,H5⟩
end Go.Proofs.YtmggcfijlpldpaaGreatDoor
namespace Go.Proofs.YtmggcfijlpldpaaGreatDoor
open Go Mb
def kz (x:Ptr) (c:Int × Int):As:=fun h=>∃ b:Nat,(x = some (b,0))∧aE [blk b ql [.int .u64 c.1,.int .i64 c.2]] h
theorem cell_op {x:Ptr} {c:Int × Int} {l:List As} {h:Hp} (s0:aE (kz x c::l) h):∃ b,x = some (b,0)∧aE (blk b ql [.int .u64 c.1,.int .i64 c.2]::l) h:=by
  obtain ⟨b,hx,st⟩:=op_ s0
  exact ⟨b,hx,st⟩
theorem cell_cl {b:Nat} {v n:Int} {l:List As} {h:Hp} (st:aE (blk b ql [.int .u64 v,.int .i64 n]::l) h):aE (kz (some (b,0)) (v,n)::l) h:=cl_ (m:=fun b=>[blk b ql [.int .u64 (v,n).1,.int .i64 (v,n).2]]) b rfl st
namespace Cell
def tick (c:Int × Int):Int × Int:=(c.1,IntKind.i64.wrap (c.2 + 1))
def cas (c:Int × Int) (o v:Int):Bool × Int × Int:=if c.1 = o then (true,v,(tick c).2) else (false,tick c)
def up (c:Int × Int) (m:Int):(Int × Bool) × Int × Int:=if c.1 ≥ m then ((c.1,false),tick c) else ((IntKind.u64.wrap (c.1 + 1),true),(IntKind.u64.wrap (c.1 + 1),(tick c).2))
end Cell
theorem sp_cell_New (v:Int):Sp Tryz.prog sT [.int .u64 v] oO [] (fun r=>aE [kz r (v,0)]):=by
  intro h st
  refine sim_cell_New _ ?_
  unfold sh_cell_New
  exact oR st fun b h' s1=>cell_cl s1
theorem sp_cell_Load (x:Ptr) (c:Int × Int):Sp Tryz.prog lN [pv x] gC [kz x c] (fun r=>pa_ (r = c.1) [kz x (Cell.tick c)]):=by
  intro h s0
  obtain ⟨b,rfl,st⟩:=cell_op s0
  refine sim_cell_Cell_Load _ ?_
  unfold tT
  refine cZ rfl (cu ?_)
  refine bi c.2 st (i:=0) rfl rfl rfl ?_
  refine us (i:=0) st rfl (Nat.le_refl _) fun h2 s2=>?_
  refine bi c.1 s2 (i:=0) rfl rfl rfl ?_
  exact aU rfl (cell_cl s2)
theorem sp_cell_Cas (x:Ptr) (c:Int × Int) (o v:Int):Sp Tryz.prog qU [pv x,.int .u64 o,.int .u64 v] az [kz x c] (fun r=>pa_ (r = (Cell.cas c o v).1) [kz x (Cell.cas c o v).2]):=by
  intro h s0
  obtain ⟨b,rfl,st⟩:=cell_op s0
  refine sim_cell_Cell_Cas _ _ _ ?_
  unfold vb
  refine cZ rfl (cu ?_)
  refine bi c.2 st (i:=0) rfl rfl rfl ?_
  refine us (i:=0) st rfl (Nat.le_refl _) fun h2 s2=>?_
  refine bi c.1 s2 (i:=0) rfl rfl rfl ?_
  refine aV (fun k=>?_) (fun k=>?_)
  · have k':¬ c.1 = o:=by simpa using k
    have e:Cell.cas c o v = (false,Cell.tick c):=if_neg k'
    rw [e]
    exact aU rfl (cell_cl s2)
  · have k':c.1 = o:=by simpa using k
    have e:Cell.cas c o v = (true,v,(Cell.tick c).2):=if_pos k'
    rw [e]
    refine us (i:=0) s2 rfl (show 0 + 0 + 1 ≤ 2 by decide) fun h3 s3=>?_
    exact aU rfl (cell_cl s3)
theorem sp_cell_Up (x:Ptr) (c:Int × Int) (m:Int):Sp Tryz.prog oE [pv x,.int .u64 m] bG [kz x c] (fun r=>pa_ (r = (Cell.up c m).1) [kz x (Cell.up c m).2]):=by
  intro h s0
  obtain ⟨b,rfl,st⟩:=cell_op s0
  refine sim_cell_Cell_Up _ _ ?_
  unfold sh_cell_Cell_Up
  refine cZ rfl (cu ?_)
  refine bi c.2 st (i:=0) rfl rfl rfl ?_
  refine us (i:=0) st rfl (Nat.le_refl _) fun h2 s2=>?_
  refine bi c.1 s2 (i:=0) rfl rfl rfl ?_
  refine aV (fun k=>?_) (fun k=>?_)
  · have k':c.1 ≥ m:=by simpa using k
    have e:Cell.up c m = ((c.1,false),Cell.tick c):=if_pos k'
    rw [e]
    refine bi c.1 s2 (i:=0) rfl rfl rfl ?_
    exact aU rfl (cell_cl s2)
  · have k':¬ c.1 ≥ m:=by simpa using k
    have e:Cell.up c m = ((IntKind.u64.wrap (c.1 + 1),true),(IntKind.u64.wrap (c.1 + 1),(Cell.tick c).2)):=if_neg k'
    rw [e]
    refine bi c.1 s2 (i:=0) rfl rfl rfl ?_
    refine us (i:=0) s2 rfl (show 0 + 0 + 1 ≤ 2 by decide) fun h3 s3=>?_
    refine bi (IntKind.u64.wrap (c.1 + 1)) s3 (i:=0) rfl rfl rfl ?_
    exact aU rfl (cell_cl s3)
def uC (x:Ptr) (k:(Int × Int) × (Int × Int)):As:=fun h=>∃ bs:Nat × Ptr × Ptr,(x = some (bs.1,0))∧aE [blk bs.1 mu [pv bs.2.1,pv bs.2.2],kz bs.2.1 k.1,kz bs.2.2 k.2] h
theorem lock_op {x:Ptr} {k:(Int × Int) × (Int × Int)} {l:List As} {h:Hp} (s0:aE (uC x k::l) h):∃ b p q,x = some (b,0)∧aE (blk b mu [pv p,pv q]::kz p k.1::kz q k.2::l) h:=by
  obtain ⟨⟨b,p,q⟩,hx,st⟩:=op_ s0
  exact ⟨b,p,q,hx,st⟩
theorem lock_cl {b:Nat} {p q:Ptr} {k1 k2:Int × Int} {l:List As} {h:Hp} (st:aE (blk b mu [pv p,pv q]::kz p k1::kz q k2::l) h):aE (uC (some (b,0)) (k1,k2)::l) h :=
  cl_ (m:=fun bs:Nat × Ptr × Ptr=>[blk bs.1 mu [pv bs.2.1,pv bs.2.2],kz bs.2.1 (k1,k2).1,kz bs.2.2 (k1,k2).2]) (b,p,q) rfl st
namespace Lock
abbrev S:=(Int × Int) × (Int × Int)
def draw (k:S):Int × S:=(IntKind.u64.wrap ((Cell.up k.1 18446744073709551615).1.1 - 1),((Cell.up k.1 18446744073709551615).2,k.2))
def turn (k:S) (t:Int):Bool × S:=if k.2.1 = t then (decide (t < k.1.1),(Cell.tick k.1,Cell.tick k.2)) else (false,(k.1,Cell.tick k.2))
def pass (k:S) (t:Int):Bool × S:=if (turn k t).1 then ((Cell.cas (turn k t).2.2 t (IntKind.u64.wrap (t + 1))).1,((turn k t).2.1,(Cell.cas (turn k t).2.2 t (IntKind.u64.wrap (t + 1))).2)) else (false,(turn k t).2)
end Lock
theorem sp_ticket_New:Sp Tryz.prog wF [] tm [] (fun r=>aE [uC r ((0,0),(0,0))]):=by
  intro h st
  refine sim_ticket_New ?_
  unfold sh_ticket_New
  refine cG [] (sp_cell_New 0) st rfl fun p h1 s1=>?_
  refine cG [] (sp_cell_New 0) (dx s1) rfl fun q h2 s2=>?_
  refine oR (dx s2) fun b h3 s3=>?_
  exact lock_cl (ba [0,1] s3 rfl)
theorem sp_ticket_Draw (x:Ptr) (k:Lock.S):Sp Tryz.prog mT [pv x] gC [uC x k] (fun r=>pa_ (r = (Lock.draw k).1) [uC x (Lock.draw k).2]):=by
  intro h s0
  obtain ⟨b,p,q,rfl,st⟩:=lock_op s0
  refine sim_ticket_Lock_Draw _ ?_
  unfold ri
  refine cZ rfl (cu ?_)
  refine bi p st (i:=0) rfl rfl rfl ?_
  refine cG [1] (sp_cell_Up p k.1 _) st rfl fun r h1 s1=>?_
  obtain ⟨hr,s2⟩:=bn.1 s1
  subst hr
  exact aU rfl (lock_cl (ba [1] s2 rfl))
theorem sp_ticket_Turn (x:Ptr) (k:Lock.S) (t:Int):Sp Tryz.prog jJ [pv x,.int .u64 t] az [uC x k] (fun r=>pa_ (r = (Lock.turn k t).1) [uC x (Lock.turn k t).2]):=by
  intro h s0
  obtain ⟨b,p,q,rfl,st⟩:=lock_op s0
  refine sim_ticket_Lock_Turn _ _ ?_
  unfold rg
  refine dc rfl (cu ?_)
  refine bi q st (i:=0) rfl rfl rfl ?_
  refine cG [2] (sp_cell_Load q k.2) st rfl fun r h1 s1=>?_
  obtain ⟨hr,s2⟩:=bn.1 s1
  subst hr
  refine aV (fun c=>?_) (fun c=>?_)
  · have c':k.2.1 = t:=by simpa using c
    have e:Lock.turn k t = (decide (t < k.1.1),(Cell.tick k.1,Cell.tick k.2)):=if_pos c'
    rw [e]
    refine bi p s2 (i:=1) rfl rfl rfl ?_
    refine cG [2] (sp_cell_Load p k.1) s2 rfl fun r h2 s3=>?_
    obtain ⟨hr,s4⟩:=bn.1 s3
    subst hr
    exact aU rfl (lock_cl (ba [2] s4 rfl))
  · have c':¬ k.2.1 = t:=by simpa using c
    have e:Lock.turn k t = (false,(k.1,Cell.tick k.2)):=if_neg c'
    rw [e]
    exact aU rfl (lock_cl (ba [1,1] s2 rfl))
theorem sp_ticket_Pass (x:Ptr) (k:Lock.S) (t:Int):Sp Tryz.prog mS [pv x,.int .u64 t] az [uC x k] (fun r=>pa_ (r = (Lock.pass k t).1) [uC x (Lock.pass k t).2]):=by
  intro h s0
  refine sim_ticket_Lock_Pass _ _ ?_
  unfold rh
  refine cG [0] (sp_ticket_Turn x k t) s0 rfl fun r h1 s1=>?_
  obtain ⟨hr,s2⟩:=bn.1 s1
  subst hr
  refine aV (fun c=>?_) (fun c=>?_)
  · have e:Lock.pass k t = ((Cell.cas (Lock.turn k t).2.2 t (IntKind.u64.wrap (t + 1))).1,((Lock.turn k t).2.1,(Cell.cas (Lock.turn k t).2.2 t (IntKind.u64.wrap (t + 1))).2)):=if_pos c
    rw [e]
    obtain ⟨b,p,q,rfl,st⟩:=lock_op s2
    refine cu (bi q st (i:=0) rfl rfl rfl ?_)
    refine cG [2] (sp_cell_Cas q _ t _) st rfl fun r h2 s3=>?_
    obtain ⟨hr,s4⟩:=bn.1 s3
    subst hr
    exact aU rfl (lock_cl (ba [1,1] s4 rfl))
  · have e:Lock.pass k t = (false,(Lock.turn k t).2):=by unfold Lock.pass; rw [c]; rfl
    rw [e]
    exact aU rfl s2
end Go.Proofs.YtmggcfijlpldpaaGreatDoor
namespace Go.Proofs.YtmggcfijlpldpaaGreatDoor
open Go Mb
set_option linter.unusedVariables false
def oY (K:Bool→Hp→Prop):Hp→Prop:=cl Tryz.prog vj [(.int .i64 2)] tn fun r24=>cl Tryz.prog kX [] ic fun r25=>cl Tryz.prog io [] gw fun r26=>cl Tryz.prog sQ [(.int .i64 3)] oN fun r27=>cl Tryz.prog sT [(.int .u64 5)] oO fun r28=>cl Tryz.prog wF [] tm fun r29=>cl Tryz.prog wG [(.int .i64 2)] rX fun r30=>br ((((((r24.isNone || r25.isNone) || r26.isNone) || r27.isNone) || r28.isNone) || r29.isNone) || r30.isNone) ( K false) ( cl Tryz.prog dS [(pv r25),(.int .i64 1),(.agg (al.C (⟨1,2,3⟩:al)).toArray)] aZ fun r59=>cl Tryz.prog oy [(pv r26),(.agg (ak.C (⟨1,5,1,1⟩:ak)).toArray)] az fun r67=>cl Tryz.prog ox [(pv r26),(.int .i64 1),(.int .i64 5)] fz fun r70=>cl Tryz.prog mK [(pv r27),(.int .i64 0),(.int .u64 4)] eo fun r74=>cl Tryz.prog lI [(pv r27),(.int .i64 2)] bG fun r77=>cl Tryz.prog oE [(pv r28),(.int .u64 9)] bG fun r82=>cl Tryz.prog mT [(pv r29)] gC fun r86=>cl Tryz.prog jk [(pv r30)] bI fun r89=>cl Tryz.prog lg [] az fun r97=>br (((((((((((r97 && (r59 == 0)) && (gr (⟨1,2,3⟩:al)).2) && (((gr (⟨1,2,3⟩:al)).1) == 33059)) && r67) && r70.2) && (r70.1.fFrame == 1)) && (r74 == 2)) && (r77.1 == 4)) && r77.2) && (r82.1 == 6)) && (r86 == 0)) ( cl Tryz.prog jJ [(pv r29),(.int .u64 0)] az fun r141=>br r141 ( cl Tryz.prog mS [(pv r29),(.int .u64 0)] az fun r145=>br ((r145 && (r89.1 == 0)) && r89.2) ( cl Tryz.prog fw [(pv r24),(.int .i64 1),(.int .i64 3),(.int .u64 9)] az fun r156=>br ((r156 && (aC (⟨6,0,0,0,0⟩:ah)).2) && (((aC (⟨6,0,0,0,0⟩:ah)).1) == 6)) ( cl Tryz.prog gH [(.agg (ah.C (⟨6,8,0,1,0⟩:ah)).toArray),(.int .i64 2)] aZ fun r167=>br (r167 == 2) ( cl Tryz.prog n_word_Args [(.int .i64 3)] eo fun r171=>br ((r171 == 4) && (be 1 3)) ( cl Tryz.prog lE [(pv r25),(.int .i64 2)] ct fun r179=>br ((r179.len:Int) == 1) ( cl Tryz.prog pJ [(pv r30)] gC fun r185=>K (r185 == 2)) ( K false)) ( K false)) ( K false)) ( K false)) ( K false)) ( K false)) ( K false))
theorem wh {K:Bool→Hp→Prop} {h:Hp} (H:oY K h):Ct Tryz.prog lb #[] h fun v h'=>∃ r,v = az r∧K r h':=aw [] Tryz.func178 c c c fun _=>M<|O c<|M<|aa<|D H en_93 fun r24 _ H1=>aa<|D H1 en_96 fun r25 _ H2=>aa<|D H2 en_51 fun r26 _ H3=>aa<|D H3 en_49 fun r27 _ H4=>p (aq c)<|p (aq c)<|p (aq c)<|O c<|M<|aa<|D H4 en_202 fun r28 _ H5=>aa<|D H5 en_203 fun r29 _ H6=>aa<|D H6 en_94 fun r30 _ H7=>p (aq c)<|p (aq c)<|O c<|aj<|M<|J c<|p (ch Tryz.underlying144 c)<|J c<|V c c (aK _) (fun g8=>wv<|ae c)<|V c c (aK _) (fun g9=>wv<|ch Tryz.underlying153<|aB c g9)<|p (dm c c)<|J c<|V c c (aK _) (fun g10=>wv<|ae c)<|V c c (aK _) (fun g11=>wv<|ch Tryz.underlying94<|aB c g11)<|p (dm c c)<|J c<|V c c (aK _) (fun g12=>wv<|ae c)<|V c c (aK _) (fun g13=>wv<|ch Tryz.underlying85<|aB c g13)<|p (dm c c)<|J c<|V c c (aK _) (fun g14=>wv<|ae c)<|V c c (aK _) (fun g15=>wv<|ch Tryz.underlying264<|aB c g15)<|p (dm c c)<|J c<|V c c (aK _) (fun g16=>wv<|ae c)<|V c c (aK _) (fun g17=>wv<|ch Tryz.underlying266<|aB c g17)<|p (dm c c)<|J c<|V c c (aK _) (fun g18=>wv<|ae c)<|V c c (aK _) (fun g19=>wv<|ch Tryz.underlying146<|aB c g19)<|p (dm c c)<|ac<|av c H7 (fun k20 H21=>M<|O c<|ag<|Y ⟨false,c,H21⟩) fun k20 H21=>am<|M<|J c<|p (aX c<|mN 1 2 3)<|aa<|D H21 en_100 fun r59 _ H22=>O c<|M<|p (aX c<|mN 1 2 3)<|aa<|cD (vs:=[(.agg (al.C (⟨1,2,3⟩:al)).toArray)]) (bq<|ct_pte_Put (⟨1,2,3⟩:al) _) en_149 c c<|J c<|p (ai c c)<|p (ai c c)<|p (aq c)<|O c<|M<|J c<|p (aX c<|vC 1 5 1 1)<|aa<|D H22 en_154 fun r67 _ H23=>O c<|M<|J c<|aa<|D H23 en_151 fun r70 _ H24=>J c<|p (ai c c)<|p (ai c c)<|aa<|aI (l:=ak.C (⟨0,0,0,0⟩:ak)) kD c c fun b12=>aa<|aN (k:=0) (vs:=ak.C r70.1) fB c c c c c c c<|O c<|M<|J c<|aa<|D H24 en_60 fun r74 _ H25=>O c<|M<|J c<|aa<|D H25 en_123 fun r77 _ H26=>J c<|p (ai c c)<|p (ai c c)<|p (aq c)<|O c<|M<|J c<|aa<|D H26 en_204 fun r82 _ H27=>J c<|p (ai c c)<|p (ai c c)<|p (aq c)<|O c<|M<|J c<|aa<|D H27 en_205 fun r86 _ H28=>O c<|M<|J c<|aa<|D H28 en_166 fun r89 _ H29=>J c<|p (ai c c)<|p (ai c c)<|p (aq c)<|O c<|M<|p (aX c<|build_34_0 6)<|aa<|cD (vs:=[(.agg (ah.C (⟨6,0,0,0,0⟩:ah)).toArray)]) (bq<|jO (⟨6,0,0,0,0⟩:ah) _) en_53 c c<|J c<|p (ai c c)<|p (ai c c)<|p (aq c)<|O c<|M<|aa<|D H29 en_206 fun r97 _ H30=>J c<|V c c (ay _) (fun g31=>wv<|ae c)<|V c c (ay _) (fun g32=>wv<|bK (aB c g32) c)<|p (bM c c)<|J c<|V c c (ay _) (fun g33=>wv<|ae c)<|p (bM c c)<|J c<|V c c (ay _) (fun g34=>wv<|ae c)<|V c c (ay _) (fun g35=>wv<|bK (aB c g35) c)<|p (bM c c)<|J c<|V c c (ay _) (fun g36=>wv<|ae c)<|p (bM c c)<|J c<|V c c (ay _) (fun g37=>wv<|ae c)<|p (bM c c)<|J c<|V c c (ay _) (fun g38=>wv<|ad lp c)<|V c c (ay _) (fun g39=>cv<|bd (k:=0) aW (aB c g39) c c)<|V c c (ay _) (fun g40=>wv<|bK (aB c g40) c)<|p (bM c c)<|J c<|V c c (ay _) (fun g41=>wv<|ae c)<|V c c (ay _) (fun g42=>wv<|bK (aB c g42) c)<|p (bM c c)<|J c<|V c c (ay _) (fun g43=>wv<|ae c)<|V c c (ay _) (fun g44=>wv<|bK (aB c g44) c)<|p (bM c c)<|J c<|V c c (ay _) (fun g45=>wv<|ae c)<|p (bM c c)<|J c<|V c c (ay _) (fun g46=>wv<|ae c)<|V c c (ay _) (fun g47=>wv<|bK (aB c g47) c)<|p (bM c c)<|J c<|V c c (ay _) (fun g48=>wv<|ae c)<|V c c (ay _) (fun g49=>wv<|bK (aB c g49) c)<|p (bM c c)<|J c<|V c c (ay _) (fun g50=>wv<|ae c)<|bP H30 (fun k52 H53=>G (Z k52)<|fT H53 en_207 (aS (aB c k52)<|aS c bO) c fun r141 _ H54=>p (aM c k52 c)<|J c<|V c c (ay _) (fun g55=>wv<|ae c)<|bP H54 (fun k57 H58=>G (Z k57)<|fT H58 en_208 (aS (aB c k57)<|aS c bO) c fun r145 _ H59=>p (aM c k57 c)<|J c<|V c c (ay _) (fun g60=>wv<|ae c)<|V c c (ay _) (fun g61=>wv<|bK (aB c g61) c)<|p (bM c c)<|J c<|V c c (ay _) (fun g62=>wv<|ae c)<|p (bM c c)<|J c<|V c c (ay _) (fun g63=>wv<|ae c)<|bP H59 (fun k65 H66=>G (Z k65)<|fT H66 en_157 (aS (aB c k65)<|aS c<|aS c<|aS c bO) c fun r156 _ H67=>p (aM c k65 c)<|J c<|V c c (ay _) (fun g68=>wv<|ae c)<|p (bM c c)<|J c<|V c c (ay _) (fun g69=>wv<|ae c)<|V c c (ay _) (fun g70=>wv<|bK (aB c g70) c)<|p (bM c c)<|J c<|V c c (ay _) (fun g71=>wv<|aX c<|ju 6 8 0 1)<|bP H67 (fun k73 H74=>G (Z k73)<|fT H74 en_98 (aS (aB c k73)<|aS c bO) c fun r167 _ H75=>G (Z k73)<|z_p (bK c c)<|p (aM c k73 c)<|J c<|bP H75 (fun k77 H78=>G (Z k77)<|D H78 en_209 fun r171 _ H79=>G (Z k77)<|z_p (bK c c)<|p (aM c k77 c)<|J c<|cO (vs:=[(.int .i64 1),(.int .i64 3)]) c c c (ay _) (fun g80=>bq<|cU 1 3 _) mj (fun g80=>c) c<|p (bM c c)<|J c<|V c c (ay _) (fun g81=>wv<|ae c)<|bP H79 (fun k83 H84=>G (Z k83)<|fT H84 en_171 (aS (aB c k83)<|aS c bO) c fun r179 _ H85=>G (Z k83)<|z_p (dv c Tryz.underlying40 c)<|G (Z k83)<|z_p (bK c c)<|p (aM c k83 c)<|J c<|V c c (ay _) (fun g86=>wv<|ae c)<|bP H85 (fun k88 H89=>G (Z k88)<|fT H89 en_210 (aS (aB c k88) bO) c fun r185 _ H90=>G (Z k88)<|z_p (bK c c)<|p (aM c k88 c)<|O c<|ag<|Y ⟨(r185 == 2),c,H90⟩) fun k88 H89=>W (aP k88)<|W (aP k88)<|p (an c k88 c)<|O c<|ag<|Y ⟨false,c,H89⟩) fun k83 H84=>W (aP k83)<|W (aP k83)<|W (aP k83)<|p (an c k83 c)<|J c<|W c<|W c<|W c<|p (an c c c)<|O c<|ag<|Y ⟨false,c,H84⟩) fun k77 H78=>W (aP k77)<|W (aP k77)<|p (an c k77 c)<|J c<|W c<|p (an c c c)<|J c<|W c<|W c<|W c<|W c<|p (an c c c)<|J c<|W c<|W c<|W c<|p (an c c c)<|O c<|ag<|Y ⟨false,c,H78⟩) fun k73 H74=>W (aP k73)<|W (aP k73)<|p (an c k73 c)<|J c<|W c<|W c<|p (an c c c)<|J c<|W c<|p (an c c c)<|J c<|W c<|W c<|W c<|W c<|p (an c c c)<|J c<|W c<|W c<|W c<|p (an c c c)<|O c<|ag<|Y ⟨false,c,H74⟩) fun k65 H66=>W (aP k65)<|p (an c k65 c)<|J c<|W c<|p (an c c c)<|J c<|W c<|W c<|p (an c c c)<|J c<|W c<|W c<|W c<|p (an c c c)<|J c<|W c<|W c<|p (an c c c)<|J c<|W c<|p (an c c c)<|J c<|W c<|W c<|W c<|W c<|p (an c c c)<|J c<|W c<|W c<|W c<|p (an c c c)<|O c<|ag<|Y ⟨false,c,H66⟩) fun k57 H58=>W (aP k57)<|p (an c k57 c)<|J c<|W c<|W c<|p (an c c c)<|J c<|W c<|p (an c c c)<|J c<|W c<|W c<|p (an c c c)<|J c<|W c<|p (an c c c)<|J c<|W c<|W c<|p (an c c c)<|J c<|W c<|W c<|W c<|p (an c c c)<|J c<|W c<|W c<|p (an c c c)<|J c<|W c<|p (an c c c)<|J c<|W c<|W c<|W c<|W c<|p (an c c c)<|J c<|W c<|W c<|W c<|p (an c c c)<|O c<|ag<|Y ⟨false,c,H58⟩) fun k52 H53=>W (aP k52)<|p (an c k52 c)<|J c<|W c<|W c<|p (an c c c)<|J c<|W c<|W c<|p (an c c c)<|J c<|W c<|p (an c c c)<|J c<|W c<|W c<|p (an c c c)<|J c<|W c<|p (an c c c)<|J c<|W c<|W c<|p (an c c c)<|J c<|W c<|W c<|W c<|p (an c c c)<|J c<|W c<|W c<|p (an c c c)<|J c<|W c<|p (an c c c)<|J c<|W c<|W c<|W c<|W c<|p (an c c c)<|J c<|W c<|W c<|W c<|p (an c c c)<|O c<|ag<|Y ⟨false,c,H53⟩
def oZ (K:Bool→Hp→Prop):Hp→Prop:=cl Tryz.prog lb [] az fun r1=>K r1
theorem wi {K:Bool→Hp→Prop} {h:Hp} (H:oZ K h):Ct Tryz.prog lc #[] h fun v h'=>∃ r,v = az r∧K r h':=aw [] Tryz.func138 c c c fun _=>M<|O c<|M<|aa<|D H en_178 fun r1 _ H1=>O c<|ag<|Y ⟨r1,c,H1⟩
end Go.Proofs.YtmggcfijlpldpaaGreatDoor
namespace Go.Proofs.YtmggcfijlpldpaaGreatDoor
open Go Mb
variable {ET:Nat} {EF:Nat × Nat}
section
variable {l:List As} {h:Hp} {x:Ptr}
theorem mem_nn {fs:List (List Int)} (s:aE (ia x fs::l) h):x.isNone = false:=by obtain ⟨b,_,_,rfl,_⟩:=mem_op s; rfl
theorem nn_of {α:Type} {φ:α→Prop} {m:α→List As} (hx:∀ z,φ z→x.isNone = false) (s:aE ((fun h=>∃ z,φ z∧aE (m z) h)::l) h):x.isNone = false:=by
  obtain ⟨z,f,_⟩:=op_ s
  exact hx z f
theorem table_nn {ps:List Pte} (s:aE (cM x ps::l) h):x.isNone = false:=nn_of (fun _ e=>by rw [e.1]; rfl) s
theorem tlb_nn {t:List TL × Int} (s:aE (fx x t::l) h):x.isNone = false:=nn_of (fun _ e=>by rw [e.1]; rfl) s
theorem mail_nn {bs:List (List Int)} (s:aE (iU x bs::l) h):x.isNone = false:=nn_of (fun _ e=>by rw [e.1]; rfl) s
theorem cell_nn {c:Int × Int} (s:aE (kz x c::l) h):x.isNone = false:=nn_of (fun _ e=>by rw [e]; rfl) s
theorem lock_nn {k:(Int × Int) × (Int × Int)} (s:aE (uC x k::l) h):x.isNone = false:=nn_of (fun _ e=>by rw [e]; rfl) s
theorem pool_nn {p:List Int} (s:aE (fL x p::l) h):x.isNone = false:=nn_of (fun _ e=>by rw [e.1]; rfl) s
end
theorem sp_Begun1:Sp Tryz.prog lg [] az [(etB ET EF)] (fun r=>pa_ (r = true) [(etB ET EF)]):=by
  intro h st
  refine wk ?_
  unfold pd
  exact bH (i:=0) sp_begun1 rfl st fun r h' hr s=>aU hr s
theorem sp_begun2:Sp Tryz.prog lb [] az [(etB ET EF)] (fun r=>pa_ (r = true) [(etB ET EF)]):=by
  intro h st
  refine wh ?_
  unfold oY
  refine lT (sp_mem_New 2 (by decide) (by decide)) st fun a1 h1 s1=>?_
  refine lT nT s1 fun a2 h2 s2=>?_
  refine lT vW s2 fun a3 h3 s3=>?_
  refine lT (sp_mail_New 3 (by decide) (by decide)) s3 fun a4 h4 s4=>?_
  refine lT (sp_cell_New 5) s4 fun a5 h5 s5=>?_
  refine lT sp_ticket_New s5 fun a6 h6 s6=>?_
  refine lT (sp_pool_New 2 (by decide) (by decide)) s6 fun a7 h7 s7=>?_
  have n1:=mem_nn s1
  have n2:=table_nn s2
  have n3:=tlb_nn s3
  have n4:=mail_nn s4
  have n5:=cell_nn s5
  have n6:=lock_nn s6
  have n7:=pool_nn s7
  rw [n1,n2,n3,n4,n5,n6,n7]
  refine cZ rfl ?_
  refine bH (i:=5) (jT a2 _ 1 ⟨1,2,3⟩) rfl s7 fun r1 h8 e1 s8=>?_
  refine bH (i:=4) (sp_tlb_Fill a3 _ ⟨1,5,1,1⟩) rfl s8 fun r2 h9 e2 s9=>?_
  refine bH (i:=4) (sp_tlb_Find a3 _ 1 5) rfl s9 fun r3 h10 e3 s10=>?_
  refine bH (i:=3) (sp_mail_All a4 _ 0 4 (fun l hl=>?_)) rfl s10 fun r4 h11 e4 s11=>?_
  · have:l = []:=by simpa using hl
    subst this
    exact ⟨fun _ h=>(by cases h),.nil,by decide⟩
  refine bH (i:=3) (sp_mail_Take a4 _ 2) rfl s11 fun r5 h12 e5 s12=>?_
  refine bH (i:=2) (sp_cell_Up a5 _ 9) rfl s12 fun r6 h13 e6 s13=>?_
  refine bH (i:=1) (sp_ticket_Draw a6 _) rfl s13 fun r7 h14 e7 s14=>?_
  refine bH (i:=0) (vX a7 _) rfl s14 fun r8 h15 e8 s15=>?_
  refine bH (i:=7) sp_Begun1 rfl s15 fun r9 h16 e9 s16=>?_
  subst e1 e2 e3 e4 e5 e6 e7 e8 e9
  refine dc (by kernel_rfl) ?_
  refine bH (i:=1) (sp_ticket_Turn a6 _ 0) rfl s16 fun r10 h17 e10 s17=>?_
  subst e10
  refine dc (by kernel_rfl) ?_
  refine bH (i:=1) (sp_ticket_Pass a6 _ 0) rfl s17 fun r11 h18 e11 s18=>?_
  subst e11
  refine dc (by kernel_rfl) ?_
  refine bH (i:=6) (lz a1 _ 1 3 9) rfl s18 fun r12 h19 e12 s19=>?_
  subst e12
  refine dc (by kernel_rfl) ?_
  refine tt (iS ⟨6,8,0,1,0⟩ 2) s19 fun r13 h20 e13 s20=>?_
  subst e13
  refine dc (by kernel_rfl) ?_
  refine tt (sp_word_Args 3) s20 fun r14 h21 e14 s21=>?_
  subst e14
  refine dc (by kernel_rfl) ?_
  refine vz (i:=5) (sp_table_By a2 _ 2) rfl s21 fun r15 h22 s22=>?_
  have e15:((r15.len:Int) == 1) = true:=by
    rw [(cd (j:=0) s22 rfl).1]
    kernel_rfl
  refine dc e15 ?_
  refine bH (i:=1) (sp_pool_Bits a7 _) rfl s22 fun r16 h23 e16 s23=>?_
  subst e16
  refine aU (by kernel_rfl) (bX (l:=[_,_,_,_,_,_,_,_]) s23)
theorem sp_Begun2:Sp Tryz.prog lc [] az [(etB ET EF)] (fun r=>pa_ (r = true) [(etB ET EF)]):=by
  intro h st
  refine wi ?_
  unfold oZ
  exact bH (i:=0) sp_begun2 rfl st fun r h' hr s=>aU hr s
end Go.Proofs.YtmggcfijlpldpaaGreatDoor
namespace Go.Proofs.YtmggcfijlpldpaaGreatDoor
open Go Mb
namespace Mb
theorem least {p:Nat→Prop}:∀ (n:Nat),p n→∃ m,p m∧∀ k,p k→m ≤ k:=by
  intro n
  induction n using Nat.strongRecOn with
  | _ n ih =>
    intro hn
    by_cases h:∃ k,k < n∧p k
    · obtain ⟨k,hk,hpk⟩:=h
      exact ih k hk hpk
    · exact ⟨n,hn,fun k hk=>Nat.le_of_not_lt fun hlt=>h ⟨k,hlt,hk⟩⟩
theorem Lp.ghost {σ γ:Type} {step:(σ→Hp→Prop)→σ→Hp→Prop} (I:γ→σ→Hp→Prop) (μ:γ→Nat) {s:σ} {h:Hp} {g:γ} (h0:I g s h)
    (hs:∀ g s h,I g s h→∀ R:σ→Hp→Prop,(∀ g' s' h',I g' s' h'→μ g' < μ g→R s' h')→step R s h):Lp step s h:=by
  have mins:∀ s h,(∃ g,I g s h)→∃ m,(∃ g,I g s h∧μ g = m)∧∀ k,(∃ g,I g s h∧μ g = k)→m ≤ k:=by
    rintro s h ⟨g,hg⟩
    exact least (p:=fun m=>∃ g,I g s h∧μ g = m) (μ g) ⟨g,hg,rfl⟩
  let M:σ→Hp→Nat:=fun s h=>@dite Nat (∃ g,I g s h) (Classical.propDecidable _) (fun H=>Classical.choose (mins s h H)) (fun _=>0)
  have hM:∀ s h,(∃ g,I g s h)→(∃ g,I g s h∧μ g = M s h)∧∀ g,I g s h→M s h ≤ μ g:=by
    intro s h H
    have e:M s h = Classical.choose (mins s h H):=by
      show @dite Nat (∃ g,I g s h) (Classical.propDecidable _) _ _ = _
      rw [dif_pos H]
    have sp:=Classical.choose_spec (mins s h H)
    rw [e]
    exact ⟨sp.1,fun g hg=>sp.2 _ ⟨g,hg,rfl⟩⟩
  refine Lp.intro (fun s h=>∃ g,I g s h) M ⟨g,h0⟩ fun s h H=>?_
  obtain ⟨⟨g,hg,e⟩,_⟩:=hM s h H
  refine hs g s h hg _ fun g' s' h' hg' hlt=>⟨⟨g',hg'⟩,?_⟩
  have:=(hM s' h' ⟨g',hg'⟩).2 g' hg'
  omega
end Mb
namespace Caps
structure Sub (t o:T):Prop where
  len:t.length = o.length
  get:∀ e s,has o e s = true→get t e s = qY∨get t e s = get o e s
def more1 (o t:T) (e s:Int):Bool × T :=
  if (at_ o e s).2 = false∨(at_ t e s).2 = true then (false,t)
  else if (at_ o e s).1.fEnv < 0 then ((root t e s (at_ o e s).1.fFrame).1 == 0,(root t e s (at_ o e s).1.fFrame).2)
  else ((derive t (at_ o e s).1.fEnv (at_ o e s).1.fSlot e s (at_ o e s).1.fRights).1 == 0,(derive t (at_ o e s).1.fEnv (at_ o e s).1.fSlot e s (at_ o e s).1.fRights).2)
def moreS (o:T) (e:Nat):Nat→Bool × T→Bool × T
  | 0,st=>st
  | n + 1,st=>((moreS o e n st).1 || (more1 o (moreS o e n st).2 e n).1,(more1 o (moreS o e n st).2 e n).2)
def moreE (o:T):Nat→Bool × T→Bool × T
  | 0,st=>st
  | m + 1,st=>moreS o m 8 (moreE o m st)
def missing (o t:T) (p:Nat × Nat):Bool:=(at_ o p.1 p.2).2 && !(at_ t p.1 p.2).2
def pairs (n:Nat):List (Nat × Nat):=(List.range n).flatMap fun e=>(List.range 8).map fun s=>(e,s)
def miss (o t:T):Nat:=(pairs o.length).countP (missing o t)
theorem mem_pairs {n e s:Nat}:(e,s) ∈ pairs n↔e < n∧s < 8:=by
  unfold pairs; simp [List.mem_flatMap]
theorem countP_lt {α:Type} {P Q:α→Bool} {a:α}:∀ {l:List α},(∀ x ∈ l,Q x = true→P x = true)→a ∈ l→P a = true→Q a = false→l.countP Q < l.countP P
  | [],_,h,_,_=>by cases h
  | x::l,h1,h2,h3,h4=>by
    have le:∀ {l:List α},(∀ x ∈ l,Q x = true→P x = true)→l.countP Q ≤ l.countP P:=fun h=>List.countP_mono_left h
    rcases List.mem_cons.1 h2 with rfl | h2
    · rw [List.countP_cons_of_pos h3,List.countP_cons_of_neg (by rw [h4]; exact Bool.false_ne_true)]
      have:=le (l:=l) (fun x hx=>h1 x (by simp [hx]))
      omega
    · have ih:=countP_lt (l:=l) (fun x hx=>h1 x (by simp [hx])) h2 h3 h4
      by_cases hq:Q x = true
      · rw [List.countP_cons_of_pos hq,List.countP_cons_of_pos (h1 x (by simp) hq)]; omega
      · rw [List.countP_cons_of_neg hq]
        by_cases hpx:P x = true
        · rw [List.countP_cons_of_pos hpx]; omega
        · rw [List.countP_cons_of_neg hpx]; omega
theorem tj {t:T} {e s:Int}:(at_ t e s).2 = true↔has t e s = true∧(get t e s).fRights ≠ 0:=by
  unfold at_; split
  · rename_i h; exact ⟨fun _=>h,fun _=>rfl⟩
  · rename_i h; exact ⟨fun hh=>(by cases hh),fun hh=>absurd hh h⟩
theorem at_fst {t:T} {e s:Int} (h:(at_ t e s).2 = true):(at_ t e s).1 = get t e s:=by
  have:=tj.1 h
  unfold at_; rw [if_pos this]
theorem sub_has {t o:T} (h:Sub t o) (e s:Int):has t e s = has o e s:=by unfold has; rw [h.len]
theorem cap_empty {n:Int} {o:T} {c:Cap} (h:CapFine n o c) (h0:c.fRights = 0):c = qY:=by
  rcases h with h | h | h
  · exact h
  · omega
  · have:=(vM h.2.2.2.1).1; omega
theorem more1_is {n:Int} {o t:T} (hn:n ≤ 16) (ok:Ok o) (F:fo n o) (okt:Ok t) (sb:Sub t o) {e s:Int} (hh:has o e s = true) :
    (more1 o t e s = (false,t)∧((at_ o e s).2 = true→(at_ t e s).2 = true∨(0 ≤ (get o e s).fEnv∧(get t (get o e s).fEnv (get o e s).fSlot).fRights = 0))) ∨
    (more1 o t e s = (true,put t e s (get o e s))∧(get t e s).fRights = 0∧(get o e s).fRights ≠ 0∧(0 ≤ (get o e s).fEnv→has t (get o e s).fEnv (get o e s).fSlot = true∧(get t (get o e s).fEnv (get o e s).fSlot).fRights ≠ 0)):=by
  by_cases h1:(at_ o e s).2 = true
  · by_cases h2:(at_ t e s).2 = true
    · left
      exact ⟨by unfold more1; rw [if_pos (.inr h2)],fun _=>.inl h2⟩
    · have hno:¬ ((at_ o e s).2 = false∨(at_ t e s).2 = true):=by simp [h1,h2]
      have hc:=(tj.1 h1).2
      have hf:=at_fst h1
      have hht:has t e s = true:=by rw [sub_has sb]; exact hh
      have h0:(get t e s).fRights = 0:=by
        by_cases hz:(get t e s).fRights = 0
        · exact hz
        · exact absurd (tj.2 ⟨hht,hz⟩) h2
      rcases F e s hh with ec | ec | ec
      · rw [ec] at hc; exact absurd rfl hc
      · right
        have hneg:(get o e s).fEnv < 0:=by omega
        have er:root t e s (get o e s).fFrame = (0,put t e s (get o e s)):=by
          unfold root
          rw [if_neg (by simp [hht]; omega),if_neg (by simp [h0])]
          have:(⟨(get o e s).fFrame,3,-1,0⟩:Cap) = get o e s:=by
            obtain ⟨a1,a2,a3,_⟩:=ec
            cases hg:get o e s
            rw [hg] at a1 a2 a3
            simp_all
          rw [this]
        refine ⟨?_,h0,hc,fun hp=>absurd hp (by omega)⟩
        unfold more1
        rw [if_neg hno,hf,if_pos hneg,er]; rfl
      · have hpos:¬ (get o e s).fEnv < 0:=by omega
        obtain ⟨p1,p2⟩:=parent_has ok hh hc ec.1
        have p1t:has t (get o e s).fEnv (get o e s).fSlot = true:=by rw [sub_has sb]; exact p1
        have hw:=vM ec.2.2.2.1
        have hmay:cz (get o e s).fRights = true:=may_iff.2 hw.1
        by_cases hp:(get t (get o e s).fEnv (get o e s).fSlot).fRights = 0
        · left
          have ed:derive t (get o e s).fEnv (get o e s).fSlot e s (get o e s).fRights = (3,t):=by
            unfold derive
            rw [if_neg (by simp [p1t,hht,hmay]),if_pos hp]
          refine ⟨?_,fun _=>.inr ⟨ec.1,hp⟩⟩
          unfold more1
          rw [if_neg hno,hf,if_neg hpos,ed]; rfl
        · right
          have eg:get t (get o e s).fEnv (get o e s).fSlot = get o (get o e s).fEnv (get o e s).fSlot:=by
            rcases sb.get _ _ p1 with h | h
            · rw [h] at hp; exact absurd rfl hp
            · exact h
          have ed:derive t (get o e s).fEnv (get o e s).fSlot e s (get o e s).fRights = (0,put t e s (get o e s)):=by
            unfold derive
            rw [if_neg (by simp [p1t,hht,hmay]),if_neg hp,if_neg (by simp [h0]),eg,if_neg (by simp [ec.2.2.2.1]),ec.2.2.2.2]
          refine ⟨?_,h0,hc,fun _=>⟨p1t,hp⟩⟩
          unfold more1
          rw [if_neg hno,hf,if_neg hpos,ed]; rfl
  · left
    exact ⟨by unfold more1; rw [if_pos (.inl (by simpa using h1))],fun h=>absurd h h1⟩
structure Way (o t0 t:T) (b:Bool) (D:Nat→Nat→Prop):Prop where
  ok:Ok t
  sub:Sub t o
  same:b = false→t = t0
  no:b = false→∀ e s:Nat,D e s→(more1 o t0 e s).1 = false
  le:miss o t ≤ miss o t0
  lt:b = true→miss o t < miss o t0
theorem way_step {n:Int} {o t0 t:T} {b:Bool} {D:Nat→Nat→Prop} (hn:n ≤ 16) (ok:Ok o) (F:fo n o) (w:Way o t0 t b D) {e s:Nat} (he:e < o.length) (hs:s < 8) :
    Way o t0 (more1 o t e s).2 (b || (more1 o t e s).1) (fun a i=>D a i∨(a = e∧i = s)):=by
  have hh:has o e s = true:=has_of he hs
  have hht:has t e s = true:=by rw [sub_has w.sub]; exact hh
  rcases more1_is hn ok F w.ok w.sub hh with ⟨e1,h1⟩ | ⟨e1,h0,hc,hp⟩
  · rw [e1,Bool.or_false]
    refine ⟨w.ok,w.sub,w.same,fun hb a i hd=>?_,w.le,w.lt⟩
    rcases hd with hd | ⟨rfl,rfl⟩
    · exact w.no hb a i hd
    · have:=w.same hb
      rw [← this,e1]
  · rw [e1,Bool.or_true]
    have gp:∀ a i,has o a i = true→get (put t e s (get o e s)) a i = if a = e∧i = s then get o e s else get t a i:=fun a i hai=>wR w.ok.row hht (by rw [sub_has w.sub]; exact hai) _
    have hlt:miss o (put t e s (get o e s)) < miss o t:=by
      unfold miss
      refine countP_lt (a:=(e,s)) (fun q hq hm=>?_) (mem_pairs.2 ⟨he,hs⟩) ?_ ?_
      · unfold missing at hm ⊢
        rw [Bool.and_eq_true] at hm ⊢
        refine ⟨hm.1,?_⟩
        have hq':=(tj.1 hm.1).1
        have hm2:¬ (at_ (put t e s (get o e s)) q.1 q.2).2 = true:=by simpa using hm.2
        have:¬ (at_ t q.1 q.2).2 = true:=by
          intro hat
          apply hm2
          have h3:=tj.1 hat
          refine tj.2 ⟨by rw [tY]; exact h3.1,?_⟩
          rw [gp _ _ hq']
          split
          · exact hc
          · exact h3.2
        simpa using this
      · unfold missing
        have a1:(at_ o e s).2 = true:=tj.2 ⟨hh,hc⟩
        have a2:(at_ t e s).2 = false:=by
          cases hat:(at_ t e s).2 with
          | false=>rfl
          | true=>exact absurd h0 (tj.1 hat).2
        simp only [a1,a2]; rfl
      · unfold missing
        have a2:(at_ (put t e s (get o e s)) e s).2 = true:=tj.2 ⟨by rw [tY]; exact hht,by rw [gp _ _ hh,if_pos ⟨rfl,rfl⟩]; exact hc⟩
        simp only [a2]; simp
    refine ⟨ok_put w.ok hht h0 _ hp,⟨by rw [put_len]; exact w.sub.len,fun a i hai=>?_⟩,fun h=>(by cases h),fun h=>(by cases h),Nat.le_of_lt (Nat.lt_of_lt_of_le hlt w.le),fun _=>Nat.lt_of_lt_of_le hlt w.le⟩
    rw [gp a i hai]
    split
    · rename_i hai2; obtain ⟨rfl,rfl⟩:=hai2; exact .inr rfl
    · exact w.sub.get a i hai
theorem way_mono {o t0 t:T} {b:Bool} {D D':Nat→Nat→Prop} (w:Way o t0 t b D) (h:∀ e s,D' e s→D e s):Way o t0 t b D':=⟨w.ok,w.sub,w.same,fun hb e s hd=>w.no hb e s (h e s hd),w.le,w.lt⟩
theorem way_row {n:Int} {o t0 t:T} {b:Bool} {e:Nat} (hn:n ≤ 16) (ok:Ok o) (F:fo n o) (he:e < o.length) (w:Way o t0 t b (fun a i=>a < e∧i < 8)):∀ j,j ≤ 8→Way o t0 (moreS o e j (b,t)).2 (moreS o e j (b,t)).1 (fun a i=>a < e∧i < 8∨a = e∧i < j)
  | 0,_=>way_mono w fun a i h=>by rcases h with h | h; exact h; omega
  | j + 1,hj=>by
    have:=way_step hn ok F (way_row hn ok F he w j (by omega)) he (s:=j) (by omega)
    exact way_mono this fun a i h=>by
      rcases h with h | h
      · exact .inl (.inl h)
      · by_cases e1:i = j
        · exact .inr ⟨h.1,e1⟩
        · exact .inl (.inr ⟨h.1,by omega⟩)
theorem way_all {n:Int} {o t:T} (hn:n ≤ 16) (ok:Ok o) (F:fo n o) (okt:Ok t) (sb:Sub t o):∀ m,m ≤ o.length→Way o t (moreE o m (false,t)).2 (moreE o m (false,t)).1 (fun a i=>a < m∧i < 8)
  | 0,_=>⟨okt,sb,fun _=>rfl,fun _ e s h=>(by omega),Nat.le_refl _,fun h=>(by cases h)⟩
  | m + 1,hm=>by
    have:=way_row hn ok F (e:=m) (by omega) (way_all hn ok F okt sb m (by omega)) 8 (Nat.le_refl _)
    exact way_mono this fun a i h=>by
      by_cases e1:a = m
      · exact .inr ⟨e1,h.2⟩
      · exact .inl ⟨by omega,h.2⟩
theorem all_there {n:Int} {o t:T} (hn:n ≤ 16) (ok:Ok o) (F:fo n o) (okt:Ok t) (sb:Sub t o) (hno:∀ e s:Nat,e < o.length→s < 8→(more1 o t e s).1 = false):t = o:=by
  obtain ⟨rank,hr⟩:=ok.rk
  have key:∀ (r:Nat) (e s:Nat),e < o.length→s < 8→rank e s ≤ r→get t e s = get o e s:=by
    intro r
    induction r using Nat.strongRecOn with
    | _ r ih =>
      intro e s he hs hrk
      have hh:has o e s = true:=has_of he hs
      by_cases hz:(get o e s).fRights = 0
      · have e0:=cap_empty (F e s hh) hz
        rcases sb.get e s hh with h | h
        · rw [h,e0]
        · exact h
      · rcases more1_is hn ok F okt sb hh with ⟨e1,h1⟩ | ⟨e1,_⟩
        · rcases h1 (tj.2 ⟨hh,hz⟩) with h2 | ⟨h2,h3⟩
          · rcases sb.get e s hh with h | h
            · have:=(tj.1 h2).2; rw [h] at this; exact absurd rfl this
            · exact h
          · exfalso
            obtain ⟨q1,q2,q3⟩:=hr e s hh hz h2
            obtain ⟨a,i,ea,ei,ha,hi⟩:=has_nat q1
            rw [ea,ei] at q2 q3 h3
            have:=ih (rank a i) (by omega) a i ha hi (Nat.le_refl _)
            rw [this] at h3; exact q2 h3
        · have:=hno e s he hs
          rw [e1] at this; cases this
  apply List.ext_getElem?
  intro m
  by_cases hm:m < o.length
  · have hmt:m < t.length:=by rw [sb.len]; exact hm
    rw [List.getElem?_eq_getElem hm,List.getElem?_eq_getElem hmt]
    congr 1
    have l1:=ok.row _ (List.getElem_mem hm)
    have l2:=okt.row _ (List.getElem_mem hmt)
    apply List.ext_getElem (by rw [l1,l2])
    intro s h1 h2
    have hs:s < 8:=by omega
    obtain ⟨_,g1⟩:=get_nat' ok.row hm hs
    obtain ⟨_,g2⟩:=get_nat' okt.row hmt hs
    rw [← g1,← g2]
    exact key _ m s hm hs (Nat.le_refl _)
  · have hmt:¬ m < t.length:=by rw [sb.len]; exact hm
    rw [List.getElem?_eq_none (Nat.le_of_not_lt hm),List.getElem?_eq_none (Nat.le_of_not_lt hmt)]
end Caps
end Go.Proofs.YtmggcfijlpldpaaGreatDoor
namespace Go.Proofs.YtmggcfijlpldpaaGreatDoor
open Go Mb
theorem sp_plain_more (zb ob:Nat) (kc oc:List Value) (ts:Sl) (pc po:Ptr) (t o:Caps.T) (h4:kc[4]? = some (sv ts)) (h6:kc[6]? = some (pv pc)) (o6:oc[6]? = some (pv po)) (hl:ts.len = o.length) (hb:o.length ≤ 4) :
    Sp Tryz.prog me [pv (some (zb,0)),pv (some (ob,0))] az [blk zb cn kc,cC pc t,blk ob cn oc,cC po o]
      (fun r=>pa_ (r = (Caps.moreE o o.length (false,t)).1) [blk zb cn kc,cC pc (Caps.moreE o o.length (false,t)).2,blk ob cn oc,cC po o]):=by
  intro h s0
  refine sim_plain_Kernel_more _ _ ?_
  unfold qq
  refine cu (bi ts s0 (i:=0) rfl rfl h4 ?_)
  refine Lp.intro (fun (z:Bool × Int) h=>∃ m:Nat,z.2 = m∧m ≤ o.length∧z.1 = (Caps.moreE o m (false,t)).1∧aE [blk zb cn kc,cC pc (Caps.moreE o m (false,t)).2,blk ob cn oc,cC po o] h) (fun (z:Bool × Int) _=>o.length - z.2.toNat) ⟨0,rfl,Nat.zero_le _,rfl,s0⟩ ?_
  rintro ⟨b,i⟩ h ⟨m,rfl,hm,rfl,s1⟩
  unfold kS
  refine aV (fun k=>?_) (fun k=>?_)
  · have hlt:m < o.length:=by rw [hl] at k; simpa using k
    have hw:IntKind.i64.wrap ((m:Int) + 1) = ((m + 1:Nat):Int):=by rw [bR (by omega) (by omega)]; rfl
    refine Lp.intro (fun (z:Bool × Int) h=>∃ j:Nat,z.2 = j∧j ≤ 8∧z.1 = (Caps.moreS o m j (Caps.moreE o m (false,t))).1∧aE [blk zb cn kc,cC pc (Caps.moreS o m j (Caps.moreE o m (false,t))).2,blk ob cn oc,cC po o] h) (fun (z:Bool × Int) _=>8 - z.2.toNat) ⟨0,rfl,Nat.zero_le _,rfl,s1⟩ ?_
    rintro ⟨b,i⟩ h ⟨j,rfl,hj,rfl,s2⟩
    unfold kR
    refine aV (fun k2=>?_) (fun k2=>?_)
    · have hlt2:j < 8:=by have:=of_decide_eq_true k2; simp at this; omega
      have hw2:IntKind.i64.wrap ((j:Int) + 1) = ((j + 1:Nat):Int):=by rw [bR (by omega) (by omega)]; rfl
      have es:Caps.moreS o m (j + 1) (Caps.moreE o m (false,t)) = ((Caps.moreS o m j (Caps.moreE o m (false,t))).1 || (Caps.more1 o (Caps.moreS o m j (Caps.moreE o m (false,t))).2 m j).1,(Caps.more1 o (Caps.moreS o m j (Caps.moreE o m (false,t))).2 m j).2):=rfl
      generalize hst:Caps.moreS o m j (Caps.moreE o m (false,t)) = st at *
      refine cu (bi po s2 (i:=2) rfl rfl o6 ?_)
      refine bH (jF po o m j) (i:=3) rfl s2 fun r h3 hr s3=>?_
      subst hr
      refine bi pc s3 (i:=0) rfl rfl h6 ?_
      refine bH (jF pc st.2 m j) (i:=1) rfl s3 fun r h4 hr s4=>?_
      subst hr
      rw [hw2]
      refine aV (fun k3=>?_) (fun k3=>?_)
      · have k3':(Caps.at_ o m j).2 = false∨(Caps.at_ st.2 m j).2 = true:=by simpa using k3
        have e1:Caps.more1 o st.2 m j = (false,st.2):=if_pos k3'
        refine ⟨⟨j + 1,rfl,hlt2,?_,?_⟩,by simp; omega⟩
        · rw [es,e1]; simp
        · rw [es,e1]; exact s4
      · have k3':¬ ((Caps.at_ o m j).2 = false∨(Caps.at_ st.2 m j).2 = true):=by simp at k3; simp [k3]
        refine aV (fun k4=>?_) (fun k4=>?_)
        · have e1:Caps.more1 o st.2 m j = ((Caps.root st.2 m j (Caps.at_ o m j).1.fFrame).1 == 0,(Caps.root st.2 m j (Caps.at_ o m j).1.fFrame).2):=by unfold Caps.more1; rw [if_neg k3',if_pos (by simpa using k4)]
          refine bi pc s4 (i:=0) rfl rfl h6 ?_
          refine bH (wa pc st.2 m j _) (i:=1) rfl s4 fun r h5 hr s5=>?_
          subst hr
          refine ⟨⟨j + 1,rfl,hlt2,?_,?_⟩,by simp; omega⟩
          · rw [es,e1]
          · rw [es,e1]; exact s5
        · have e1:Caps.more1 o st.2 m j = ((Caps.derive st.2 (Caps.at_ o m j).1.fEnv (Caps.at_ o m j).1.fSlot m j (Caps.at_ o m j).1.fRights).1 == 0,(Caps.derive st.2 (Caps.at_ o m j).1.fEnv (Caps.at_ o m j).1.fSlot m j (Caps.at_ o m j).1.fRights).2):=by unfold Caps.more1; rw [if_neg k3',if_neg (by simpa using k4)]
          refine bi pc s4 (i:=0) rfl rfl h6 ?_
          refine bH (su pc st.2 _ _ m j _) (i:=1) rfl s4 fun r h5 hr s5=>?_
          subst hr
          refine ⟨⟨j + 1,rfl,hlt2,?_,?_⟩,by simp; omega⟩
          · rw [es,e1]
          · rw [es,e1]; exact s5
    · have:j = 8:=by have:=of_decide_eq_false k2; simp at this; omega
      subst this
      rw [hw]
      exact ⟨⟨m + 1,rfl,hlt,rfl,s2⟩,by simp; omega⟩
  · have:m = o.length:=by rw [hl] at k; simp at k; omega
    subst this
    exact aU rfl s1
section
variable {α:Type}
def eX (xs:List α) (d:α) (n:Nat):List α:=xs.take n++List.replicate (xs.length - n) d
theorem mixd_len (xs:List α) (d:α) {n:Nat} (h:n ≤ xs.length):(eX xs d n).length = xs.length:=by simp [eX]; omega
theorem sg (xs:List α) (d:α):eX xs d 0 = List.replicate xs.length d:=by simp [eX]
theorem vn (xs:List α) (d:α):eX xs d xs.length = xs:=by simp [eX]
theorem mixd_get (xs:List α) (d:α) {n:Nat} (h:n < xs.length):(eX xs d n)[n]? = some d:=by
  unfold eX
  rw [List.getElem?_append_right (by simp; omega),List.getElem?_replicate,if_pos (by simp; omega)]
theorem qA (xs:List α) (d:α) {n:Nat} (h:n < xs.length):(eX xs d n).set n xs[n] = eX xs d (n + 1):=by
  unfold eX
  rw [List.set_append_right _ _ (by simp; omega)]
  have e1:n - (xs.take n).length = 0:=by simp; omega
  have e2:xs.length - n = (xs.length - (n + 1)) + 1:=by omega
  rw [e1,e2,List.replicate_succ,List.set_cons_zero]
  have e3:xs.take (n + 1) = xs.take n++[xs[n]]:=by simp
  rw [e3,List.append_assoc]; rfl
end
theorem put_ok {p:Pte} (h:PteFine p) (h0:p.fRights ≠ 0):(gr p).2 = true:=by
  rcases h with h | ⟨h1,h2,h3,h4,h5⟩
  · rw [h] at h0; exact absurd rfl h0
  · unfold gr
    have e1:al.eqb p ⟨0,0,0⟩ = false:=by
      unfold al.eqb
      have:(p.fRights == 0) = false:=by simpa using h0
      simp [this]
    have e2:(((((decide (p.fFrame < 0)) || (decide (p.fFrame ≥ 16))) || (decide (p.fSlot < 0))) || (decide (p.fSlot ≥ 8))) || (!(cz p.fRights))) = false:=by
      simp [h5]; omega
    rw [e1,e2]; rfl
theorem insert_mixd {row:List Pte} (h:px row) {j:Nat} (hj:j < 8) (hr:row[j]?.map (·.fRights) ≠ some 0):Table.insert (eX row ee j) j (row.getD j ee) = (0,eX row ee (j + 1)):=by
  have hjl:j < row.length:=by rw [h.1]; exact hj
  have hg:row.getD j ee = row[j]:=by simp [hjl]
  rw [hg]
  have h0:row[j].fRights ≠ 0:=by
    intro e; apply hr; rw [List.getElem?_eq_getElem hjl]; simp [e]
  have hp:=put_ok (h.2 _ (List.getElem_mem hjl)) h0
  have hat:Table.at_ (eX row ee j) j = ee:=by
    unfold Table.at_
    rw [Int.toNat_natCast,List.getD_eq_getElem?_getD,mixd_get row ee hjl]; rfl
  have his:cw j = true:=by unfold cw; simp; omega
  unfold Table.insert
  rw [if_neg (by simp [hp,h0,his]),hat,if_neg (by simp),Int.toNat_natCast,qA row ee hjl]
theorem idx_rep (m:Nat):∀ (f:Nat) (i:Int),fQ 0 (List.replicate f 1++List.replicate (m + 1) 0) i = i + f
  | 0,i=>by simp [fQ,List.replicate_succ]
  | f + 1,i=>by
    rw [List.replicate_succ,List.cons_append,fQ,if_neg (by decide),idx_rep m f (i + 1)]
    omega
theorem take_mixd {F f:Nat} (h:f < F):(Pool.take (eX (List.replicate F (1:Int)) 0 f)).2.2 = eX (List.replicate F (1:Int)) 0 (f + 1):=by
  have hl:f < (List.replicate F (1:Int)).length:=by simpa using h
  have e:eX (List.replicate F (1:Int)) 0 f = List.replicate f 1++List.replicate ((F - f - 1) + 1) 0:=by
    unfold eX
    rw [List.take_replicate,List.length_replicate,Nat.min_eq_left (by omega)]
    congr 2; omega
  have hi:fQ 0 (eX (List.replicate F (1:Int)) 0 f) 0 = f:=by rw [e,idx_rep]; omega
  unfold Pool.take
  rw [hi,if_neg (by omega)]
  have:=qA (List.replicate F (1:Int)) 0 hl
  rw [List.getElem_replicate] at this
  simpa using this
abbrev cpL (zo z:PZ) (o k:PK):List As:=plainL zo o++plainL z k
abbrev Done (z:PZ) (k:PK) (r:Ptr):As:=aE [bk r k,bk (some (z.b,0)) k]
theorem copy7 {zo z:PZ} {o k:PK} {h:Hp} (ok:PK.Ok k) (ho:zo.tp.length = k.tabs.length) (hz:z.tp.length = k.tabs.length) (es:o.s = k.s) (em:o.m = k.m) (et:o.tabs = k.tabs) (ep:o.pool = k.pool) (oko:Caps.Ok o.caps) (sb:Caps.Sub o.caps k.caps)
    (s0:aE (cpL zo z o k) h):Lp (iz (Done z k) (z.b,0) (some (zo.b,0))) () h:=by
  obtain ⟨os,om,ot,op,oc⟩:=o
  simp only at es em et ep oko sb
  subst es; subst em; subst et; subst ep
  have hs:=ji.1 ok.sz
  have hts:=(cd (j:=2) s0 rfl).1
  have hcl:=ok.cl
  have htl:=ok.tl
  refine Lp.ghost (γ:=Caps.T) (fun c _ h=>Caps.Ok c∧Caps.Sub c k.caps∧aE (cpL zo z ⟨k.s,k.m,k.tabs,k.pool,c⟩ k) h) (fun c=>Caps.miss k.caps c) ⟨oko,sb,s0⟩ ?_
  rintro c s h ⟨okc,sbc,s1⟩ R hR
  have w:=Caps.way_all (n:=k.s.fFrames) (by omega) ok.tree ok.fine okc sbc k.caps.length (Nat.le_refl _)
  unfold iz
  refine cG [0,4,4,8] (sp_plain_more zo.b z.b (pP k.s zo) (pP k.s z) zo.ts zo.pc z.pc c k.caps rfl rfl rfl (by omega) (by omega)) s1 rfl fun r h2 s2=>?_
  obtain ⟨hr,s3⟩:=bn.1 s2
  have s4:aE (cpL zo z ⟨k.s,k.m,k.tabs,k.pool,(Caps.moreE k.caps k.caps.length (false,c)).2⟩ k) h2:=ba [0,3,3,3,3,0,0,1,1,1,1,0] s3 rfl
  refine aV (fun d=>?_) (fun d=>?_)
  · exact hR _ () h2 ⟨w.ok,w.sub,s4⟩ (w.lt (by rw [← hr,d]))
  · have hf:(Caps.moreE k.caps k.caps.length (false,c)).1 = false:=by rw [← hr,d]
    have hsame:=w.same hf
    rw [hsame] at s4
    have hc:c = k.caps:=Caps.all_there (n:=k.s.fFrames) (by omega) ok.tree ok.fine okc sbc fun e s he hs=>w.no hf e s ⟨he,hs⟩
    subst hc
    have s5:=cN (z:=zo) (k:=k) (l:=plainL z k) ho ok s4
    exact ba [1] (cN (z:=z) (k:=k) hz ok (ba [1,1,1,1,1,1] s5 rfl)) rfl
theorem copy5 {zo z:PZ} {o k:PK} {h:Hp} {x92:Sl} (ok:PK.Ok k) (ho:zo.tp.length = k.tabs.length) (hz:z.tp.length = k.tabs.length) (hx:x92.len = k.tabs.length) (es:o.s = k.s) (em:o.m = k.m) (et:o.tabs = List.replicate k.tabs.length (List.replicate 8 ee)) (ep:o.pool = k.pool) (oko:Caps.Ok o.caps) (sb:Caps.Sub o.caps k.caps)
    (s0:aE (cpL zo z o k) h):Lp (iA (Done z k) (z.b,0) (some (zo.b,0)) x92) 0 h:=by
  obtain ⟨os,om,ot,op,oc⟩:=o
  simp only at es em et ep oko sb
  subst es; subst em; subst et; subst ep
  have hs:=ji.1 ok.sz
  have htl:=ok.tl
  have hzs:=(cd (j:=8) s0 rfl).1
  have hos:=(cd (j:=2) s0 rfl).1
  have e0:List.replicate k.tabs.length (List.replicate 8 ee) = eX k.tabs (List.replicate 8 ee) 0:=(sg _ _).symm
  rw [e0] at s0
  refine Lp.intro (fun (i:Int) h=>∃ e:Nat,i = e∧e ≤ k.tabs.length∧aE (cpL zo z ⟨k.s,k.m,eX k.tabs (List.replicate 8 ee) e,k.pool,oc⟩ k) h) (fun (i:Int) _=>k.tabs.length - i.toNat) ⟨0,rfl,Nat.zero_le _,s0⟩ ?_
  rintro i h ⟨e,rfl,he,s1⟩
  unfold iA
  refine aV (fun d=>?_) (fun d=>?_)
  · have hlt:e < k.tabs.length:=by rw [hx] at d; simpa using d
    have hw:IntKind.i64.wrap ((e:Int) + 1) = ((e + 1:Nat):Int):=by rw [bR (by omega) (by omega)]; rfl
    have htab:px k.tabs[e]:=ok.tr _ (List.getElem_mem hlt)
    have hml:=mixd_len k.tabs (List.replicate 8 ee) he
    have heo:e < zo.tp.length:=by omega
    have hez:e < z.tp.length:=by omega
    have hmg:=mixd_get k.tabs (List.replicate 8 ee) hlt
    have r0:List.replicate 8 ee = eX k.tabs[e] ee 0:=by rw [sg,htab.1]
    refine Lp.intro (fun (i:Int) h=>∃ j:Nat,i = j∧j ≤ 8∧aE (cpL zo z ⟨k.s,k.m,(eX k.tabs (List.replicate 8 ee) e).set e (eX k.tabs[e] ee j),k.pool,oc⟩ k) h) (fun (i:Int) _=>8 - i.toNat) ⟨0,rfl,Nat.zero_le _,?_⟩ ?_
    · rw [← r0,iy hmg]; exact s1
    rintro i h ⟨j,rfl,hj,s2⟩
    unfold kT
    refine aV (fun d2=>?_) (fun d2=>?_)
    · have hlt2:j < 8:=by have:=of_decide_eq_true d2; omega
      have hjl:j < k.tabs[e].length:=by rw [htab.1]; exact hlt2
      have hw2:IntKind.i64.wrap ((j:Int) + 1) = ((j + 1:Nat):Int):=by rw [bR (by omega) (by omega)]; rfl
      have his:cw j = true:=by unfold cw; simp; omega
      have hat:Table.at_ k.tabs[e] j = k.tabs[e][j]:=by simp [Table.at_,hjl]
      refine bi z.ts s2 (i:=6) rfl rfl rfl ?_
      refine du s2 (j:=8) rfl (by omega) (by omega) fun q hq=>?_
      refine ef (j:=8) (i:=e) (k:=0) z.tp[e] gJ s2 rfl hq (by simp) (aD hez) (by simp) ?_
      have s3:=jd (aD hez) (aD hlt) (ba [9] s2 rfl)
      refine bH (nq z.tp[e] k.tabs[e] j) (i:=0) rfl s3 fun r h4 hr s4=>?_
      subst hr
      have s5:aE (cpL zo z ⟨k.s,k.m,(eX k.tabs (List.replicate 8 ee) e).set e (eX k.tabs[e] ee j),k.pool,oc⟩ k) h4:=ba [1,1,1,1,1,1,1,1,1,0] (vF (aD hez) (aD hlt) hz s4) rfl
      refine aV (fun d3=>?_) (fun d3=>?_)
      · have hne:k.tabs[e][j].fRights ≠ 0:=by
          unfold Table.get at d3
          split at d3
          · rename_i hh; rw [hat] at hh; exact hh.2
          · cases d3
        have eg:(Table.get k.tabs[e] j).1 = k.tabs[e].getD j ee:=by
          unfold Table.get; rw [hat,if_pos ⟨his,hne⟩]; simp [hjl]
        have ei:=insert_mixd htab hlt2 (by rw [List.getElem?_eq_getElem hjl]; simpa using hne)
        rw [eg]
        refine cu (bi zo.ts s5 (i:=0) rfl rfl rfl ?_)
        refine du s5 (j:=2) rfl (by omega) (by omega) fun q2 hq2=>?_
        refine ef (j:=2) (i:=e) (k:=0) zo.tp[e] gJ s5 rfl hq2 (by simp) (aD heo) (by simp) ?_
        have eH:((eX k.tabs (List.replicate 8 ee) e).set e (eX k.tabs[e] ee j))[e]? = some (eX k.tabs[e] ee j):=by rw [List.getElem?_set,if_pos rfl,if_pos (by rw [hml]; exact hlt)]
        have s6:=jd (aD heo) eH (ba [3] s5 rfl)
        refine bH (jT zo.tp[e] _ j _) (i:=0) rfl s6 fun r h7 hr s7=>?_
        rw [ei] at s7
        have s8:=xd (aD heo) (by rw [List.length_set,hml]; exact hlt) (by rw [List.length_set,hml]; exact ho) s7
        rw [List.set_set] at s8
        rw [hw2]
        exact ⟨⟨j + 1,rfl,hlt2,ba [1,1,1] s8 rfl⟩,by simp; omega⟩
      · have hze:k.tabs[e][j] = ee:=by
          rcases htab.2 _ (List.getElem_mem hjl) with h | h
          · exact h
          · have:=may_iff.1 h.2.2.2.2
            unfold Table.get at d3
            rw [hat,if_pos ⟨his,by omega⟩] at d3; cases d3
        have hsame:eX k.tabs[e] ee j = eX k.tabs[e] ee (j + 1):=by
          rw [← qA _ _ hjl,hze,iy (mixd_get _ _ hjl)]
        rw [hsame] at s5
        rw [hw2]
        exact ⟨⟨j + 1,rfl,hlt2,s5⟩,by simp; omega⟩
    · have:j = 8:=by have:=of_decide_eq_false d2; omega
      subst this
      have er:eX k.tabs[e] ee 8 = k.tabs[e]:=by have:=vn k.tabs[e] ee; rw [htab.1] at this; exact this
      rw [er,qA _ _ hlt] at s2
      rw [hw]
      exact ⟨⟨e + 1,rfl,hlt,s2⟩,by simp; omega⟩
  · have:e = k.tabs.length:=by rw [hx] at d; simp at d; omega
    subst this
    rw [vn] at s1
    exact copy7 (o:=⟨k.s,k.m,k.tabs,k.pool,oc⟩) ok ho hz rfl rfl rfl rfl oko sb s1
theorem refs_nat {p:List Int} {f:Nat} (h:f < p.length):Pool.refs p f = p[f]:=by
  unfold Pool.refs; rw [if_neg (by omega)]; simp [h]
theorem copy3 {zo z:PZ} {o k:PK} {h:Hp} (ok:PK.Ok k) (ho:zo.tp.length = k.tabs.length) (hz:z.tp.length = k.tabs.length) (es:o.s = k.s) (em:o.m = k.m) (et:o.tabs = List.replicate k.tabs.length (List.replicate 8 ee)) (ep:o.pool = List.replicate k.pool.length 1) (oko:Caps.Ok o.caps) (sb:Caps.Sub o.caps k.caps)
    (s0:aE (cpL zo z o k) h):Lp (iB (Done z k) (z.b,0) (some (zo.b,0)) k.s.fFrames) 0 h:=by
  obtain ⟨os,om,ot,op,oc⟩:=o
  simp only at es em et ep oko sb
  subst es; subst em; subst et; subst ep
  have hs:=ji.1 ok.sz
  have hpl:=ok.pl
  rw [← sg k.pool 1] at s0
  refine Lp.intro (fun (i:Int) h=>∃ f:Nat,i = f∧f ≤ k.pool.length∧aE (cpL zo z ⟨k.s,k.m,List.replicate k.tabs.length (List.replicate 8 ee),eX k.pool 1 f,oc⟩ k) h) (fun (i:Int) _=>k.pool.length - i.toNat) ⟨0,rfl,Nat.zero_le _,s0⟩ ?_
  rintro i h ⟨f,rfl,hf,s1⟩
  unfold iB
  refine aV (fun d=>?_) (fun d=>?_)
  · have hlt:f < k.pool.length:=by have:=of_decide_eq_true d; omega
    have hw:IntKind.i64.wrap ((f:Int) + 1) = ((f + 1:Nat):Int):=by rw [bR (by omega) (by omega)]; rfl
    have hml:=mixd_len k.pool 1 hf
    have hmg:=mixd_get k.pool 1 hlt
    have hr7:=ok.pr _ (List.getElem_mem hlt)
    refine bi z.pp s1 (i:=6) rfl rfl rfl ?_
    refine bH (vY z.pp k.pool f) (i:=10) rfl s1 fun r h2 hr s2=>?_
    rw [refs_nat hlt] at hr
    subst hr
    have hw0:IntKind.i64.wrap (k.pool[f] - 1) = k.pool[f] - 1:=bR (by omega) (by omega)
    refine Lp.intro (fun (i:Int) h=>∃ j:Nat,i = j∧(j:Int) ≤ max 0 (k.pool[f] - 1)∧aE (cpL zo z ⟨k.s,k.m,List.replicate k.tabs.length (List.replicate 8 ee),(eX k.pool 1 f).set f (1 + (j:Int)),oc⟩ k) h) (fun (i:Int) _=>(8 - i).toNat) ⟨0,rfl,by omega,?_⟩ ?_
    · have:(eX k.pool 1 f).set f (1 + ((0:Nat):Int)) = eX k.pool 1 f:=by
        rw [show (1:Int) + ((0:Nat):Int) = 1 from rfl,iy hmg]
      rw [this]; exact s2
    rintro i h ⟨j,rfl,hj,s3⟩
    have eH:f < ((eX k.pool 1 f).set f (1 + (j:Int))).length:=by rw [List.length_set,hml]; exact hlt
    have hgs:((eX k.pool 1 f).set f (1 + (j:Int)))[f] = 1 + (j:Int):=by simp
    unfold kU
    rw [hw0]
    refine aV (fun d2=>?_) (fun d2=>?_)
    · have hlt2:(j:Int) < k.pool[f] - 1:=of_decide_eq_true d2
      have hw2:IntKind.i64.wrap ((j:Int) + 1) = ((j + 1:Nat):Int):=by rw [bR (by omega) (by omega)]; rfl
      refine cu (bi zo.pp s3 (i:=0) rfl rfl rfl ?_)
      refine bH (sp_pool_Hold zo.pp _ f) (i:=4) rfl s3 fun r h4 hr s4=>?_
      have eh:(Pool.hold ((eX k.pool 1 f).set f (1 + (j:Int))) f).2 = (eX k.pool 1 f).set f (1 + ((j + 1:Nat):Int)):=by
        unfold Pool.hold
        rw [refs_nat eH,hgs,if_neg (by omega),Int.toNat_natCast,List.set_set,bR (by omega) (by omega)]
        congr 1 <;> omega
      rw [eh] at s4
      rw [hw2]
      exact ⟨⟨j + 1,rfl,by omega,s4⟩,by omega⟩
    · have hge:¬ (j:Int) < k.pool[f] - 1:=of_decide_eq_false d2
      rw [hw]
      refine aV (fun d3=>?_) (fun d3=>?_)
      · have h0:k.pool[f] = 0:=by simpa using d3
        have hj0:j = 0:=by omega
        subst hj0
        refine cu (bi zo.pp s3 (i:=0) rfl rfl rfl ?_)
        refine bH (sp_pool_Let zo.pp _ f) (i:=4) rfl s3 fun r h4 hr s4=>?_
        have eh:(Pool.lets ((eX k.pool 1 f).set f (1 + ((0:Nat):Int))) f).2.2 = eX k.pool 1 (f + 1):=by
          unfold Pool.lets
          rw [refs_nat eH,hgs,if_neg (by omega),Int.toNat_natCast,List.set_set,bR (by omega) (by omega),← qA _ _ hlt,h0]
          rfl
        rw [eh] at s4
        exact ⟨⟨f + 1,rfl,hlt,s4⟩,by simp; omega⟩
      · have h0:k.pool[f] ≠ 0:=by simpa using d3
        have ej:1 + (j:Int) = k.pool[f]:=by omega
        rw [ej,qA _ _ hlt] at s3
        exact ⟨⟨f + 1,rfl,hlt,s3⟩,by simp; omega⟩
  · have:f = k.pool.length:=by have:=of_decide_eq_false d; omega
    subst this
    rw [vn] at s1
    have hzs:=(cd (j:=8) s1 rfl).1
    refine bi z.ts s1 (i:=6) rfl rfl rfl ?_
    exact copy5 (o:=⟨k.s,k.m,List.replicate k.tabs.length (List.replicate 8 ee),k.pool,oc⟩) ok ho hz (by omega) rfl rfl rfl rfl oko sb s1
theorem frame_nat {m:List (List Int)} {f:Nat} (h:f < m.length):Mem.frame m f = m[f]:=by
  have hh:Mem.has m f 0:=⟨by omega,by omega,by omega,by omega⟩
  unfold Mem.frame
  rw [if_pos hh]
  simp [h]
theorem copy1 {zo z:PZ} {o k:PK} {h:Hp} (ok:PK.Ok k) (ho:zo.tp.length = k.tabs.length) (hz:z.tp.length = k.tabs.length) (es:o.s = k.s) (em:o.m = List.replicate k.m.length (List.replicate 16 0)) (et:o.tabs = List.replicate k.tabs.length (List.replicate 8 ee)) (ep:o.pool = List.replicate k.pool.length 0) (oko:Caps.Ok o.caps) (sb:Caps.Sub o.caps k.caps)
    (s0:aE (cpL zo z o k) h):Lp (iC (Done z k) (z.b,0) (some (zo.b,0)) k.s.fFrames) 0 h:=by
  obtain ⟨os,om,ot,op,oc⟩:=o
  simp only at es em et ep oko sb
  subst es; subst em; subst et; subst ep
  have hs:=ji.1 ok.sz
  have hpl:=ok.pl
  have hml:=ok.ml
  have hpm:k.pool.length = k.m.length:=by omega
  rw [← sg k.m] at s0
  have ep0:List.replicate k.pool.length (0:Int) = eX (List.replicate k.pool.length (1:Int)) 0 0:=by rw [sg]; simp
  rw [ep0] at s0
  refine Lp.intro (fun (i:Int) h=>∃ f:Nat,i = f∧f ≤ k.m.length∧aE (cpL zo z ⟨k.s,eX k.m (List.replicate 16 0) f,List.replicate k.tabs.length (List.replicate 8 ee),eX (List.replicate k.pool.length (1:Int)) 0 f,oc⟩ k) h) (fun (i:Int) _=>k.m.length - i.toNat) ⟨0,rfl,Nat.zero_le _,s0⟩ ?_
  rintro i h ⟨f,rfl,hf,s1⟩
  unfold iC
  refine aV (fun d=>?_) (fun d=>?_)
  · have hlt:f < k.m.length:=by have:=of_decide_eq_true d; omega
    have hw:IntKind.i64.wrap ((f:Int) + 1) = ((f + 1:Nat):Int):=by rw [bR (by omega) (by omega)]; rfl
    have hrow:=ok.mr _ (List.getElem_mem hlt)
    have hmx:=mixd_len k.m (List.replicate 16 (0:Int)) hf
    have hmg:=mixd_get k.m (List.replicate 16 (0:Int)) hlt
    refine bi z.pm s1 (i:=6) rfl rfl rfl ?_
    refine vz (sp_mem_Frame z.pm k.m f) (i:=7) rfl s1 fun r33 h2 s2=>?_
    rw [frame_nat hlt] at s2
    have hrl:=(cd (j:=0) s2 rfl).1
    have r0:List.replicate 16 (0:Int) = eX k.m[f] 0 0:=by rw [sg,hrow]
    refine Lp.intro (fun (i:Int) h=>∃ j:Nat,i = j∧j ≤ 16∧aE (vU r33 k.m[f]::cpL zo z ⟨k.s,(eX k.m (List.replicate 16 0) f).set f (eX k.m[f] 0 j),List.replicate k.tabs.length (List.replicate 8 ee),eX (List.replicate k.pool.length (1:Int)) 0 f,oc⟩ k) h) (fun (i:Int) _=>16 - i.toNat) ⟨0,rfl,Nat.zero_le _,?_⟩ ?_
    · rw [← r0,iy hmg]; exact s2
    rintro i h ⟨j,rfl,hj,s3⟩
    unfold kV
    refine aV (fun d2=>?_) (fun d2=>?_)
    · have hlt2:j < 16:=by rw [hrl,hrow] at d2; have:=of_decide_eq_true d2; omega
      have hjl:j < k.m[f].length:=by omega
      have hw2:IntKind.i64.wrap ((j:Int) + 1) = ((j + 1:Nat):Int):=by rw [bR (by omega) (by omega)]; rfl
      refine du s3 (j:=0) rfl (by omega) (by omega) fun q hq=>?_
      refine ef (j:=0) (i:=j) (k:=0) k.m[f][j] (cW _) s3 rfl hq (by simp) (aD hjl) (by simp) ?_
      refine cu (bi zo.pm s3 (i:=1) rfl rfl rfl ?_)
      refine bH (lz zo.pm _ f j k.m[f][j]) (i:=2) rfl s3 fun r h4 hr s4=>?_
      have es:(Mem.store ((eX k.m (List.replicate 16 0) f).set f (eX k.m[f] 0 j)) f j k.m[f][j]).2 = (eX k.m (List.replicate 16 0) f).set f (eX k.m[f] 0 (j + 1)):=by
        have hh:Mem.has ((eX k.m (List.replicate 16 0) f).set f (eX k.m[f] 0 j)) f j:=⟨by omega,by simp only [List.length_set,hmx]; omega,by omega,by omega⟩
        unfold Mem.store
        rw [if_pos hh]
        unfold Mem.put
        simp only [Int.toNat_natCast]
        have hg:((eX k.m (List.replicate 16 0) f).set f (eX k.m[f] 0 j)).getD f [] = eX k.m[f] 0 j:=by rw [List.getD_eq_getElem?_getD,List.getElem?_set,if_pos rfl,if_pos (by rw [hmx]; exact hlt)]; rfl
        rw [hg,List.set_set,qA _ _ hjl]
      rw [es] at s4
      rw [hw2]
      exact ⟨⟨j + 1,rfl,hlt2,s4⟩,by simp; omega⟩
    · have:j = 16:=by rw [hrl,hrow] at d2; have:=of_decide_eq_false d2; omega
      subst this
      have er:eX k.m[f] 0 16 = k.m[f]:=by have:=vn k.m[f] (0:Int); rw [hrow] at this; exact this
      rw [er,qA _ _ hlt] at s3
      refine cu (bi zo.pp s3 (i:=1) rfl rfl rfl ?_)
      refine bH (vX zo.pp _) (i:=5) rfl s3 fun r h4 hr s4=>?_
      rw [take_mixd (by omega)] at s4
      rw [hw]
      exact ⟨⟨f + 1,rfl,hlt,bX (l:=[vU r33 k.m[f]]) s4⟩,by simp; omega⟩
  · have:f = k.m.length:=by have:=of_decide_eq_false d; omega
    subst this
    have ea:eX (List.replicate k.pool.length (1:Int)) 0 k.m.length = List.replicate k.pool.length 1:=by
      have:=vn (List.replicate k.pool.length (1:Int)) 0
      rw [List.length_replicate,hpm] at this
      rw [hpm]; exact this
    rw [vn,ea] at s1
    refine bi k.s.fFrames s1 (i:=6) rfl rfl rfl ?_
    exact copy3 (o:=⟨k.s,k.m,List.replicate k.tabs.length (List.replicate 8 ee),List.replicate k.pool.length 1,oc⟩) ok ho hz rfl rfl rfl rfl oko sb s1
theorem three {s:lx} {z:PZ}:∀ (i:Nat) (v:Value),(aA.C s)[i]? = some v→(pP s z)[0 + 0 + i]? = some v:=by
  intro j v hv
  have:j < 3:=(List.getElem?_eq_some_iff.1 hv).1
  match j,this with
  | 0,_=>exact hv
  | 1,_=>exact hv
  | 2,_=>exact hv
theorem ut (x:Ptr) (k:PK):Sp Tryz.prog gy [pv x] dF [bk x k] (fun r=>aE [bk r k,bk x k]):=by
  intro h s0
  obtain ⟨z,rfl,h1,ok,hl,st⟩:=fD s0
  have hs:=ji.1 ok.sz
  refine sim_plain_Kernel_Copy _ ?_
  unfold qu
  refine cZ rfl (cu ?_)
  refine ld_s (i:=0) k.s st rfl (fun i v hv=>by simpa using three i v hv) ?_
  refine lT (rE k.s ok.sz) st fun r h2 s2=>?_
  obtain ⟨zo,rfl,ho,okn,hlo,s3⟩:=fD s2
  refine bi k.s.fFrames s3 (i:=6) rfl rfl rfl ?_
  have e1:k.s.fFrames.toNat = k.m.length:=by have:=ok.ml; omega
  have e2:k.s.fEnvs.toNat = k.tabs.length:=by have:=ok.tl; omega
  have e3:k.s.fFrames.toNat = k.pool.length:=by have:=ok.pl; omega
  have e4:k.s.fEnvs.toNat = k.caps.length:=by have:=ok.cl; omega
  refine copy1 (o:=PK.new k.s) ok ?_ h1 rfl (by simp only [PK.new,e1]) (by simp only [PK.new,e2]) (by simp only [PK.new,e3]) okn.tree ⟨by simp only [PK.new,List.length_replicate,e4],fun e s hh=>.inl ?_⟩ s3
  · rw [ho]; simp only [PK.new,List.length_replicate,e2]
  · obtain ⟨a,b,rfl,rfl,ha,hb⟩:=Caps.has_nat hh
    simp only [Caps.get,PK.new,e4,Int.toNat_natCast,List.getD_eq_getElem?_getD,List.getElem?_replicate,if_pos ha,Option.getD_some,if_pos hb]
end Go.Proofs.YtmggcfijlpldpaaGreatDoor
namespace Go.Proofs.YtmggcfijlpldpaaGreatDoor
open Go Mb
set_option linter.unusedVariables false
def og (K:Bool→Hp→Prop):Hp→Prop:=cl Tryz.prog nv [(.agg (aA.C (⟨1,2,2⟩:aA)).toArray)] dF fun r23=>cl Tryz.prog wJ [(.int .i64 2)] rZ fun r24=>cl Tryz.prog nA [(.int .i64 3)] ir fun r25=>cl Tryz.prog io [] gw fun r26=>cl Tryz.prog kX [] ic fun r27=>cl Tryz.prog vj [(.int .i64 2)] tn fun r28=>br (((((r23.isNone || r24.isNone) || r25.isNone) || r26.isNone) || r27.isNone) || r28.isNone) ( K false) ( cl Tryz.prog dr [(pv r23),(.int .i64 0),(.agg (ah.C (⟨1,1,0,0,0⟩:ah)).toArray)] bf fun r54=>cl Tryz.prog dr [(pv r23),(.int .i64 0),(.agg (ah.C (⟨6,2,1,3,0⟩:ah)).toArray)] bf fun r60=>cl Tryz.prog dr [(pv r23),(.int .i64 0),(.agg (ah.C (⟨21,2,5,77,0⟩:ah)).toArray)] bf fun r65=>cl Tryz.prog dr [(pv r23),(.int .i64 0),(.agg (ah.C (⟨20,2,5,0,0⟩:ah)).toArray)] bf fun r69=>cl Tryz.prog jo [(pv r24),(.int .i64 0),(.int .i64 1),(.int .i64 1)] aZ fun r73=>cl Tryz.prog hO [(pv r24),(.int .i64 0),(.int .i64 1),(.int .i64 1),(.int .i64 3),(.int .i64 1)] aZ fun r75=>cl Tryz.prog iI [(pv r25),(.int .i64 0)] bG fun r78=>cl Tryz.prog jN [(pv r25),(.int .i64 1),(.int .u64 r78.1)] az fun r83=>cl Tryz.prog dS [(pv r27),(.int .i64 2),(.agg (al.C (⟨1,1,1⟩:al)).toArray)] aZ fun r86=>cl Tryz.prog n_user_Do [(pv r26),(pv r27),(pv r28),(.int .i64 0),(.agg (ah.C (⟨20,2,3,0,0⟩:ah)).toArray)] eC fun r92=>cl Tryz.prog mU [(pv r23),(.int .i64 0),(.agg (ah.C (⟨7,5,0,0,0⟩:ah)).toArray)] ii fun r97=>cl Tryz.prog lc [] az fun r98=>br ((((((r98 && r54.2) && (r54.1.fErr == 0)) && (r60.1.fErr == 0)) && (r69.1.fVal == 77)) && (r73 == 0)) && (r75 == 0)) ( cl Tryz.prog kL [(pv r24),(.int .i64 0),(.int .i64 1)] cK fun r127=>br (((((r127.len:Int) == 1) && (r78.1 == 1)) && r78.2) && r83) ( cl Tryz.prog iZ [(pv r25),(.int .u64 1)] az fun r143=>br (!r143) ( cl Tryz.prog iH [(pv r25),(.int .u64 1)] ct fun r148=>br ((((((r148.len:Int) == 1) && (r86 == 0)) && (r92.1.fErr == 0)) && (r92.2.fFrame == 1)) && (mA 3 3 4)) ( cl Tryz.prog kg [(.int .i64 3)] ii fun r171=>cl Tryz.prog nz [r97,r171] az fun r172=>br r172 ( cl Tryz.prog mg [(pv r23)] ct fun r176=>K ((r176.len:Int) == 1)) ( K false)) ( K false)) ( K false)) ( K false)) ( K false))
theorem uO {K:Bool→Hp→Prop} {h:Hp} (H:og K h):Ct Tryz.prog ku #[] h fun v h'=>∃ r,v = az r∧K r h':=aw [] Tryz.func85 c c c fun _=>M<|O c<|M<|p (aX c<|ti 1 2 2)<|aa<|D H en_48 fun r23 _ H1=>aa<|D H1 en_95 fun r24 _ H2=>aa<|D H2 en_50 fun r25 _ H3=>p (aq c)<|p (aq c)<|O c<|M<|aa<|D H3 en_51 fun r26 _ H4=>aa<|D H4 en_96 fun r27 _ H5=>aa<|D H5 en_93 fun r28 _ H6=>p (aq c)<|p (aq c)<|O c<|aj<|M<|J c<|p (ch Tryz.underlying83 c)<|J c<|V c c (aK _) (fun g7=>wv<|ae c)<|V c c (aK _) (fun g8=>wv<|ch Tryz.underlying147<|aB c g8)<|p (dm c c)<|J c<|V c c (aK _) (fun g9=>wv<|ae c)<|V c c (aK _) (fun g10=>wv<|ch Tryz.underlying86<|aB c g10)<|p (dm c c)<|J c<|V c c (aK _) (fun g11=>wv<|ae c)<|V c c (aK _) (fun g12=>wv<|ch Tryz.underlying94<|aB c g12)<|p (dm c c)<|J c<|V c c (aK _) (fun g13=>wv<|ae c)<|V c c (aK _) (fun g14=>wv<|ch Tryz.underlying153<|aB c g14)<|p (dm c c)<|J c<|V c c (aK _) (fun g15=>wv<|ae c)<|V c c (aK _) (fun g16=>wv<|ch Tryz.underlying144<|aB c g16)<|p (dm c c)<|ac<|av c H6 (fun k17 H18=>M<|O c<|ag<|Y ⟨false,c,H18⟩) fun k17 H18=>am<|M<|J c<|p (aX c<|jP 1 1)<|aa<|D H18 en_62 fun r54 _ H19=>J c<|p (ai c c)<|p (ai c c)<|aa<|aI (l:=ab.C (⟨0,0⟩:ab)) cQ c c fun b7=>aa<|aN (k:=0) (vs:=ab.C r54.1) bJ c c c c c c c<|O c<|M<|J c<|p (aX c<|ju 6 2 1 3)<|aa<|D H19 en_62 fun r60 _ H20=>J c<|p (ai c c)<|p (ai c c)<|aa<|aI (l:=ab.C (⟨0,0⟩:ab)) cQ c c fun b9=>aa<|aN (k:=0) (vs:=ab.C r60.1) bJ c c c c c c c<|O c<|M<|J c<|p (aX c<|ju 21 2 5 77)<|aa<|D H20 en_62 fun r65 _ H21=>ac<|M<|J c<|p (aX c<|tg 20 2 5)<|aa<|D H21 en_62 fun r69 _ H22=>J c<|p (ai c c)<|p (ai c c)<|aa<|aI (l:=ab.C (⟨0,0⟩:ab)) cQ c c fun b11=>aa<|aN (k:=0) (vs:=ab.C r69.1) bJ c c c c c c c<|O c<|M<|J c<|aa<|D H22 en_134 fun r73 _ H23=>J c<|aa<|D H23 en_135 fun r75 _ H24=>p (aq c)<|O c<|M<|J c<|aa<|D H24 en_59 fun r78 _ H25=>J c<|p (ai c c)<|p (ai c c)<|p (aq c)<|O c<|M<|J c<|J c<|aa<|D H25 en_124 fun r83 _ H26=>O c<|M<|J c<|p (aX c<|mN 1 1 1)<|aa<|D H26 en_100 fun r86 _ H27=>O c<|M<|J c<|J c<|J c<|p (aX c<|tg 20 2 3)<|aa<|D H27 en_136 fun r92 _ H28=>J c<|p (ai c c)<|p (ai c c)<|aa<|aI (l:=ab.C (⟨0,0⟩:ab)) cQ c c fun b19=>aa<|aI (l:=ak.C (⟨0,0,0,0⟩:ak)) kD c c fun b20=>aa<|aN (k:=1) (vs:=ab.C r92.1) bJ c c c c c c c<|aa<|aN (k:=0) (vs:=ak.C r92.2) fB c c c c c c c<|ac<|M<|J c<|p (aX c<|jP 7 5)<|aa<|D H28 en_137 fun r97 _ H29=>O c<|M<|aa<|D H29 en_138 fun r98 _ H30=>J c<|V c c (ay _) (fun g31=>wv<|ae c)<|p (bM c c)<|J c<|V c c (ay _) (fun g32=>wv<|ad jr c)<|V c c (ay _) (fun g33=>cv<|bd (k:=4) nu (aB c g33) c c)<|V c c (ay _) (fun g34=>wv<|bK (aB c g34) c)<|p (bM c c)<|J c<|V c c (ay _) (fun g35=>wv<|ad jr c)<|V c c (ay _) (fun g36=>cv<|bd (k:=3) nu (aB c g36) c c)<|V c c (ay _) (fun g37=>wv<|bK (aB c g37) c)<|p (bM c c)<|J c<|V c c (ay _) (fun g38=>wv<|ad fld_30_1 c)<|V c c (ay _) (fun g39=>cv<|bd (k:=2) ck (aB c g39) c c)<|V c c (ay _) (fun g40=>wv<|bK (aB c g40) c)<|p (bM c c)<|J c<|V c c (ay _) (fun g41=>wv<|ae c)<|V c c (ay _) (fun g42=>wv<|bK (aB c g42) c)<|p (bM c c)<|J c<|V c c (ay _) (fun g43=>wv<|ae c)<|V c c (ay _) (fun g44=>wv<|bK (aB c g44) c)<|p (bM c c)<|J c<|V c c (ay _) (fun g45=>wv<|ae c)<|bP H30 (fun k47 H48=>G (Z k47)<|fT H48 en_139 (aS (aB c k47)<|aS c<|aS c bO) c fun r127 _ H49=>G (Z k47)<|z_p (dv c Tryz.underlying197 c)<|G (Z k47)<|z_p (bK c c)<|p (aM c k47 c)<|J c<|V c c (ay _) (fun g50=>wv<|ae c)<|V c c (ay _) (fun g51=>wv<|bK (aB c g51) c)<|p (bM c c)<|J c<|V c c (ay _) (fun g52=>wv<|ae c)<|p (bM c c)<|J c<|V c c (ay _) (fun g53=>wv<|ae c)<|p (bM c c)<|J c<|V c c (ay _) (fun g54=>wv<|ae c)<|bP H49 (fun k56 H57=>G (Z k56)<|fT H57 en_61 (aS (aB c k56)<|aS c bO) c fun r143 _ H58=>G (Z k56)<|z_p (cf c)<|p (aM c k56 c)<|J c<|V c c (ay _) (fun g59=>wv<|ae c)<|bP H58 (fun k61 H62=>G (Z k61)<|fT H62 en_111 (aS (aB c k61)<|aS c bO) c fun r148 _ H63=>G (Z k61)<|z_p (dv c Tryz.underlying40 c)<|G (Z k61)<|z_p (bK c c)<|p (aM c k61 c)<|J c<|V c c (ay _) (fun g64=>wv<|ae c)<|V c c (ay _) (fun g65=>wv<|bK (aB c g65) c)<|p (bM c c)<|J c<|V c c (ay _) (fun g66=>wv<|ad jr c)<|V c c (ay _) (fun g67=>cv<|bd (k:=1) nu (aB c g67) c c)<|V c c (ay _) (fun g68=>wv<|bK (aB c g68) c)<|p (bM c c)<|J c<|V c c (ay _) (fun g69=>wv<|ad lp c)<|V c c (ay _) (fun g70=>cv<|bd (k:=0) aW (aB c g70) c c)<|V c c (ay _) (fun g71=>wv<|bK (aB c g71) c)<|p (bM c c)<|J c<|cO (vs:=[(.int .i64 3),(.int .u64 3),(.int .u64 4)]) c c c (ay _) (fun g72=>bq<|uG 3 3 4 _) en_140 (fun g72=>c) c<|p (bM c c)<|J c<|V c c (ay _) (fun g73=>wv<|ae c)<|bP H63 (fun k75 H76=>G (Z k75)<|D H76 xc fun r171 _ H77=>G (Z k75)<|fT H77 en_141 (aS (aB c k75)<|aS c bO) c fun r172 _ H78=>p (aM c k75 c)<|J c<|V c c (ay _) (fun g79=>wv<|ae c)<|bP H78 (fun k81 H82=>G (Z k81)<|fT H82 en_46 (aS (aB c k81) bO) c fun r176 _ H83=>G (Z k81)<|z_p (dv c Tryz.underlying40 c)<|G (Z k81)<|z_p (bK c c)<|p (aM c k81 c)<|O c<|ag<|Y ⟨((r176.len:Int) == 1),c,H83⟩) fun k81 H82=>W (aP k81)<|W (aP k81)<|W (aP k81)<|p (an c k81 c)<|O c<|ag<|Y ⟨false,c,H82⟩) fun k75 H76=>W (aP k75)<|W (aP k75)<|p (an c k75 c)<|J c<|W c<|W c<|W c<|W c<|p (an c c c)<|O c<|ag<|Y ⟨false,c,H76⟩) fun k61 H62=>W (aP k61)<|W (aP k61)<|W (aP k61)<|p (an c k61 c)<|J c<|W c<|W c<|p (an c c c)<|J c<|W c<|W c<|W c<|p (an c c c)<|J c<|W c<|W c<|W c<|p (an c c c)<|J c<|W c<|p (an c c c)<|J c<|W c<|W c<|W c<|p (an c c c)<|J c<|W c<|W c<|W c<|W c<|p (an c c c)<|O c<|ag<|Y ⟨false,c,H62⟩) fun k56 H57=>W (aP k56)<|W (aP k56)<|p (an c k56 c)<|J c<|W c<|W c<|W c<|W c<|p (an c c c)<|J c<|W c<|W c<|p (an c c c)<|J c<|W c<|W c<|W c<|p (an c c c)<|J c<|W c<|W c<|W c<|p (an c c c)<|J c<|W c<|p (an c c c)<|J c<|W c<|W c<|W c<|p (an c c c)<|J c<|W c<|W c<|W c<|W c<|p (an c c c)<|O c<|ag<|Y ⟨false,c,H57⟩) fun k47 H48=>W (aP k47)<|W (aP k47)<|W (aP k47)<|p (an c k47 c)<|J c<|W c<|W c<|p (an c c c)<|J c<|W c<|p (an c c c)<|J c<|W c<|p (an c c c)<|J c<|W c<|W c<|W c<|p (an c c c)<|J c<|W c<|W c<|W c<|W c<|p (an c c c)<|J c<|W c<|W c<|p (an c c c)<|J c<|W c<|W c<|W c<|p (an c c c)<|J c<|W c<|W c<|W c<|p (an c c c)<|J c<|W c<|p (an c c c)<|J c<|W c<|W c<|W c<|p (an c c c)<|J c<|W c<|W c<|W c<|W c<|p (an c c c)<|O c<|ag<|Y ⟨false,c,H48⟩
def oh (K:Bool→Hp→Prop):Hp→Prop:=cl Tryz.prog ku [] az fun r1=>K r1
theorem uP {K:Bool→Hp→Prop} {h:Hp} (H:oh K h):Ct Tryz.prog kv #[] h fun v h'=>∃ r,v = az r∧K r h':=aw [] Tryz.func42 c c c fun _=>M<|O c<|M<|aa<|D H en_85 fun r1 _ H1=>O c<|ag<|Y ⟨r1,c,H1⟩
end Go.Proofs.YtmggcfijlpldpaaGreatDoor
namespace Go.Proofs.YtmggcfijlpldpaaGreatDoor
open Go Mb
variable {ET:Nat} {EF:Nat × Nat}
section
variable {l:List As} {h:Hp} {x:Ptr}
theorem plain_nn {k:PK} (s:aE (bk x k::l) h):x.isNone = false:=nn_of (fun _ e=>by rw [e.1]; rfl) s
theorem tree_nn {k:Caps.T} (s:aE (cC x k::l) h):x.isNone = false:=nn_of (fun _ e=>by rw [e.1]; rfl) s
theorem epochs_nn {k:List Int × List Int} (s:aE (eR x k::l) h):x.isNone = false:=nn_of (fun _ e=>by rw [e.1]; rfl) s
end
theorem sp_plain_Err (x:Ptr) (k:PK) (e:Int) (c:ah) (h1:(PK.do_ k e c).1.2 = true) (h2:(PK.do_ k e c).1.1.fErr ≠ 0):Sp Tryz.prog mU [pv x,.int .i64 e,.agg c.C.toArray] ii [(etB ET EF),bk x k]
    (fun r=>ex fun b:Nat × Nat=>pa_ (r = dn b.1) [trB b.1 ⟨(PK.do_ k e c).1.1.fErr,e,c,dn b.2⟩,(etB ET EF),bk x k]):=by
  intro h st
  have hn:=plain_nn (ba [1] st rfl)
  refine sim_plain_Kernel_Err _ _ _ ?_
  unfold rm
  refine cZ hn ?_
  refine vz (i:=1) (ut x k) rfl st fun y g1 s1=>?_
  refine bH (i:=0) (jA y k e c) rfl s1 fun r g2 hr s2=>?_
  subst hr
  refine cZ (by rw [h1]; rfl) ?_
  refine cG [] (rest:=[_,_,_]) (sp_Of _ h2) s2 rfl fun r g3 s3=>?_
  obtain ⟨b,x3⟩:=ui s3
  obtain ⟨rfl,y3⟩:=bn.1 x3
  refine cG [2,0] (rest:=[_,_]) (sp_In e c b _) y3 rfl fun r g4 s4=>?_
  obtain ⟨d,x4⟩:=ui s4
  obtain ⟨rfl,y4⟩:=bn.1 x4
  refine ⟨(d,b),aU rfl (bX (l:=[_,_]) (ba [2,2] y4 rfl))⟩
theorem sp_begun11:Sp Tryz.prog ku [] az [(etB ET EF)] (fun r=>pa_ (r = true) [(etB ET EF)]):=by
  intro h st
  refine uO ?_
  unfold og
  refine lT (rE ⟨1,2,2⟩ (by decide)) st fun a1 h1 s1=>?_
  refine lT (sp_caps_New 2 (by decide) (by decide)) s1 fun a2 h2 s2=>?_
  refine lT (rH 3 (by decide) (by decide)) s2 fun a3 h3 s3=>?_
  refine lT vW s3 fun a4 h4 s4=>?_
  refine lT nT s4 fun a5 h5 s5=>?_
  refine lT (sp_mem_New 2 (by decide) (by decide)) s5 fun a6 h6 s6=>?_
  have n1:=plain_nn s1
  have n2:=tree_nn s2
  have n3:=epochs_nn s3
  have n4:=tlb_nn s4
  have n5:=table_nn s5
  have n6:=mem_nn s6
  rw [n1,n2,n3,n4,n5,n6]
  refine cZ rfl ?_
  refine bH (i:=5) (jA a1 _ 0 ⟨1,1,0,0,0⟩) rfl s6 fun r1 h7 e1 s7=>?_
  refine bH (i:=5) (jA a1 _ 0 ⟨6,2,1,3,0⟩) rfl s7 fun r2 h8 e2 s8=>?_
  refine bH (i:=5) (jA a1 _ 0 ⟨21,2,5,77,0⟩) rfl s8 fun r3 h9 e3 s9=>?_
  refine bH (i:=5) (jA a1 _ 0 ⟨20,2,5,0,0⟩) rfl s9 fun r4 h10 e4 s10=>?_
  refine bH (i:=4) (wa a2 _ 0 1 1) rfl s10 fun r5 h11 e5 s11=>?_
  refine bH (i:=4) (su a2 _ 0 1 1 3 1) rfl s11 fun r6 h12 e6 s12=>?_
  refine bH (i:=3) (sp_epoch_Begin a3 _ 0 (by decide)) rfl s12 fun r7 h13 e7 s13=>?_
  subst e7
  refine bH (i:=3) (sp_epoch_Ack a3 _ 1 _) rfl s13 fun r8 h14 e8 s14=>?_
  refine bH (i:=1) (jT a5 _ 2 ⟨1,1,1⟩) rfl s14 fun r9 h15 e9 s15=>?_
  refine cG [2,1,0] (rest:=[_,_,_,_]) (sp_user_Do a4 a5 a6 _ _ _ 0 ⟨20,2,3,0,0⟩) s15 rfl fun r10 h16 x16=>?_
  obtain ⟨e10,s16⟩:=bn.1 x16
  subst e1 e2 e3 e4 e5 e6 e8 e9 e10
  refine cG [6,5] (rest:=[_,_,_,_,_]) (sp_plain_Err a1 _ 0 ⟨7,5,0,0,0⟩ (by kernel_rfl) (by decide)) s16 rfl fun r11 h17 x17=>?_
  obtain ⟨⟨b,b'⟩,z17⟩:=ui x17
  obtain ⟨rfl,s17⟩:=bn.1 z17
  refine bH (i:=1) sp_Begun2 rfl s17 fun r12 h18 e12 s18=>?_
  subst e12
  refine dc (by kernel_rfl) ?_
  refine vz (i:=7) (sp_caps_Below a2 _ 0 1) rfl s18 fun r13 h19 s19=>?_
  have e13:((r13.len:Int) == 1) = true:=by
    rw [(cd (j:=0) s19 rfl).1]
    kernel_rfl
  rw [e13]
  refine dc (by kernel_rfl) ?_
  refine bH (i:=7) (sp_epoch_Done a3 _ 1) rfl s19 fun r14 h20 e14 s20=>?_
  subst e14
  refine dc (by kernel_rfl) ?_
  refine vz (i:=7) (sp_epoch_Waits a3 _ 1) rfl s20 fun r15 h21 s21=>?_
  have e15:((r15.len:Int) == 1) = true:=by
    rw [(cd (j:=0) s21 rfl).1]
    kernel_rfl
  rw [e15]
  refine dc (by kernel_rfl) ?_
  refine cG [] (rest:=[_,_,_,_,_,_,_,_,_,_]) (sp_Of 3 (by decide)) s21 rfl fun r16 h22 x22=>?_
  obtain ⟨d,z22⟩:=ui x22
  obtain ⟨rfl,s22⟩:=bn.1 z22
  refine cG [3,0] (rest:=[_,_,_,_,_,_,_,_,_]) (sp_Is1 b d _ tr3 (by kernel_rfl) (.inr ⟨b',by kernel_rfl⟩)) s22 rfl fun r17 h23 x23=>?_
  obtain ⟨rfl,s23⟩:=bn.1 x23
  refine dc rfl ?_
  refine vz (i:=5) (sp_plain_Free a1 _) rfl s23 fun r18 h24 s24=>?_
  have e18:((r18.len:Int) == 1) = true:=by
    rw [(cd (j:=0) s24 rfl).1]
    kernel_rfl
  exact aU e18 (bX (l:=[_,_,_,_,_,_,_,_,_,_,_]) (ba [0,0,0,0,0,1,1,1,1,1,1] s24 rfl))
theorem sp_Begun11:Sp Tryz.prog kv [] az [(etB ET EF)] (fun r=>pa_ (r = true) [(etB ET EF)]):=by
  intro h st
  refine uP ?_
  unfold oh
  exact bH (i:=0) sp_begun11 rfl st fun r h' hr s=>aU hr s
end Go.Proofs.YtmggcfijlpldpaaGreatDoor
namespace Go.Proofs.YtmggcfijlpldpaaGreatDoor
open Go Mb
theorem calls_nil:∀ (n:Nat) {l:List As} {h:Hp},aE l h→aE (all il (List.replicate n (none:Ptr)) (List.replicate n (none:Option KC))::l) h
  | 0,_,_,s=>all_nil s
  | n + 1,l,h,s=>by
    have s1:=star_cons (A:=il none none) (fun _=>rfl) (calls_nil n s)
    rw [List.replicate_succ,List.replicate_succ]
    obtain ⟨h1,h2,d,e,a,h3,h4,d2,e2,b,s'⟩:=s1
    subst e2
    obtain ⟨d3,d4⟩:=Dj.of_un_right d
    exact ⟨un h1 h3,h4,Dj.un_left d4 d2,by rw [e,mo],⟨h1,h3,d3,rfl,a,b⟩,s'⟩
def newI (s:lx) (b n:Nat) (pp pm pe:Ptr) (cs:Sl) (i:Int) (h:Hp):Prop:=∃ (j:Nat) (ts:Sl) (tp:List Ptr),i = j∧j ≤ n∧tp.length = j∧aE [blk b cc [pv pp,.int .i64 s.fEnvs,sv ts,pv pm,pv pe,sv cs,sv (⟨none,0,0,none⟩:Sl),.int .i64 0],bk pp (PK.new s),vQ so ts tp,all fx tp (List.replicate j tlb0),iU pm (List.replicate n []),eR pe ([],List.replicate n 0),vQ eZ cs (List.replicate n none),all il (List.replicate n none) (List.replicate n none),vE (⟨none,0,0,none⟩:Sl) []] h
theorem new_round {s:lx} {b n:Nat} {pp pm pe:Ptr} {cs:Sl} (hn8:n ≤ 8) {i:Int} {h:Hp} (H:newI s b n pp pm pe cs i h) (hi:i < n) :
    (both (ld (b,2) cS fun x31=>cl Tryz.prog io [] gw fun r32=>hpv Tryz.prog (Instr.buildSlice bN 1 #[(0,(pv r32))]) dI fun (v33:Sl)=>hpv Tryz.prog (Builtin.append_ #[bN,bN] bN #[(sv x31),(sv v33)]) dI fun (v34:Sl)=>Mb.st (b,2) [sv v34] fun h'=>newI s b n pp pm pe cs (IntKind.i64.wrap (i + 1)) h'∧n - (IntKind.i64.wrap (i + 1)).toNat < n - i.toNat)
     (cl Tryz.prog io [] gw fun r32=>ld (b,2) cS fun x31=>hpv Tryz.prog (Instr.buildSlice bN 1 #[(0,(pv r32))]) dI fun (v33:Sl)=>hpv Tryz.prog (Builtin.append_ #[bN,bN] bN #[(sv x31),(sv v33)]) dI fun (v34:Sl)=>Mb.st (b,2) [sv v34] fun h'=>newI s b n pp pm pe cs (IntKind.i64.wrap (i + 1)) h'∧n - (IntKind.i64.wrap (i + 1)).toNat < n - i.toNat)) h:=by
  obtain ⟨j,ts,tp,rfl,hj,htp,s6⟩:=H
  have hlt:j < n:=by omega
  have hw:IntKind.i64.wrap ((j:Int) + 1) = ((j + 1:Nat):Int):=by rw [bR (by omega) (by omega)]; rfl
  rw [hw]
  have fin:∀ (r:Ptr) (v:Sl) (h:Hp),aE [fx r tlb0,blk b cc [pv pp,.int .i64 s.fEnvs,sv ts,pv pm,pv pe,sv cs,sv (⟨none,0,0,none⟩:Sl),.int .i64 0],bk pp (PK.new s),vQ so v (tp++[r]),all fx tp (List.replicate j tlb0),iU pm (List.replicate n []),eR pe ([],List.replicate n 0),vQ eZ cs (List.replicate n none),all il (List.replicate n none) (List.replicate n none),vE (⟨none,0,0,none⟩:Sl) []] h →
      Mb.st (b,2) [sv v] (fun h'=>newI s b n pp pm pe cs ((j + 1:Nat):Int) h'∧n - ((j + 1:Nat):Int).toNat < n - (j:Int).toNat) h:=by
    intro r v h s7
    refine us (i:=1) s7 rfl (Nat.le_of_ble_eq_true rfl) fun h8 s8=>?_
    refine ⟨⟨j + 1,v,tp++[r],rfl,hlt,by simp [htp],?_⟩,by simp; omega⟩
    have s9:=all_push (by simp [htp]) (ba [0,3] s8 rfl)
    have e:List.replicate j tlb0++[tlb0] = List.replicate (j + 1) tlb0:=List.replicate_succ'.symm
    rw [e] at s9
    exact ba [1,1,1,0] s9 rfl
  refine ⟨?_,?_⟩
  · refine bi ts s6 (i:=0) rfl rfl rfl ?_
    refine lT vW s6 fun r h7 s7=>?_
    refine kj (τ:=Ptr) (i:=3) (enc:=cP) (val:=fun x=>pv x) el_SPtlb_Tlb gJ cP_one (fun _=>rfl) (by omega) rfl rfl s7 rfl (by omega) (by omega) fun v h8 s8=>?_
    exact fin r v h8 s8
  · refine lT vW s6 fun r h7 s7=>?_
    refine bi ts s7 (i:=1) rfl rfl rfl ?_
    refine kj (τ:=Ptr) (i:=3) (enc:=cP) (val:=fun x=>pv x) el_SPtlb_Tlb gJ cP_one (fun _=>rfl) (by omega) rfl rfl s7 rfl (by omega) (by omega) fun v h8 s8=>?_
    exact fin r v h8 s8
theorem new_start {s:lx} {b n:Nat} {pp pm pe:Ptr} {cs:Sl} {h:Hp}
    (st:aE [blk b cc (fy.C (⟨pp,s.fEnvs,(⟨none,0,0,none⟩:Sl),pm,pe,cs,(⟨none,0,0,none⟩:Sl),0⟩:fy)),bk pp (PK.new s),iU pm (List.replicate n []),eR pe ([],List.replicate n 0),vQ eZ cs (List.replicate n none)] h):newI s b n pp pm pe cs 0 h:=by
  have s1:=fC (τ:=bQ) (T:=nk) (m:=16) (enc:=ar.C) (calls_nil n (fC (τ:=Ptr) (T:=so) (m:=1) (enc:=cP) (all_nil (A:=fx) st)))
  exact ⟨0,⟨none,0,0,none⟩,[],rfl,Nat.zero_le _,rfl,ba [4,4,2,2,2,2,2,1] s1 rfl⟩
theorem new_end {s:lx} (hs:PK.sized s = true) {b n:Nat} (hn:s.fCores = n) {pp pm pe:Ptr} {cs:Sl} {h:Hp} (H:newI s b n pp pm pe cs n h):aE [co (some (b,0)) (KK.new s)] h:=by
  obtain ⟨j,ts,tp,hj,hj2,htp,s6⟩:=H
  have:j = n:=by omega
  subst this
  have ok:=kok_new hs
  have e:KK.new s = ⟨PK.new s,List.replicate j tlb0,List.replicate j [],([],List.replicate j 0),List.replicate j none,[],0⟩:=by unfold KK.new; rw [hn]; rfl
  rw [e] at ok ⊢
  exact oF (z:=⟨b,pp,ts,tp,pm,pe,cs,List.replicate j none,⟨none,0,0,none⟩⟩) ⟨by simpa using htp,by simp⟩ ok s6
theorem sp_kern_New (s:lx) (hs:PK.sized s = true):Sp Tryz.prog wH [.agg s.C.toArray] rY [] (fun r=>aE [co r (KK.new s)]):=by
  intro h st
  have hz:=ji.1 hs
  obtain ⟨n,hn⟩:=Int.eq_ofNat_of_zero_le (show 0 ≤ s.fCores by omega)
  have hn8:n ≤ 8:=by omega
  refine sim_kern_New _ ?_
  unfold sh_kern_New
  refine lT (rE s hs) st fun pp h1 s1=>?_
  have hpp:pp.isNone = false:=by
    obtain ⟨_,h2,_⟩:=fD s1; rw [h2]; rfl
  refine cZ hpp ?_
  have mk:∀ {l:List As} {h:Hp} {K:Sl→Hp→Prop},aE l h→(∀ v h',aE (vQ eZ v (List.replicate n none)::l) h'→K v h')→hpv Tryz.prog (Instr.makeSlice mw (.int .i64 s.fCores) (.int .i64 s.fCores)) qf K h:=by
    intro l h K s2 k
    rw [hn]
    exact nB (τ:=Ptr) (x0:=none) (enc:=cP) (n:=n) (T:=eZ) (m:=1) el_SPkern_call rfl s2 (by omega) (by omega) k
  have em:s.fCores.toNat = n:=by omega
  refine ⟨?_,?_⟩
  · refine lT (sp_mail_New s.fCores (by omega) (by omega)) s1 fun pm h2 s2=>?_
    refine ⟨?_,?_⟩
    · refine lT (rH s.fCores (by omega) (by omega)) s2 fun pe h3 s3=>?_
      rw [em] at s3
      refine mk s3 fun cs h4 s4=>?_
      refine oR s4 fun b h5 s5=>?_
      refine Lp.intro (fun (i:Int) h=>newI s b n pp pm pe cs i h) (fun (i:Int) _=>n - i.toNat) (new_start (ba [0,4,3,2,1] s5 rfl)) ?_
      intro i h H
      unfold kern_New_l1
      refine aV (fun d=>new_round hn8 H (by have:=of_decide_eq_true d; omega)) (fun d=>?_)
      have:i = n:=by obtain ⟨j,_,_,e,hj,_⟩:=H; have:=of_decide_eq_false d; omega
      subst this
      exact new_end hs hn H
    · refine mk s2 fun cs h3 s3=>?_
      refine lT (rH s.fCores (by omega) (by omega)) s3 fun pe h4 s4=>?_
      rw [em] at s4
      refine oR s4 fun b h5 s5=>?_
      refine Lp.intro (fun (i:Int) h=>newI s b n pp pm pe cs i h) (fun (i:Int) _=>n - i.toNat) (new_start (ba [0,3,2,0,0] s5 rfl)) ?_
      intro i h H
      unfold kern_New_l2
      refine aV (fun d=>new_round hn8 H (by have:=of_decide_eq_true d; omega)) (fun d=>?_)
      have:i = n:=by obtain ⟨j,_,_,e,hj,_⟩:=H; have:=of_decide_eq_false d; omega
      subst this
      exact new_end hs hn H
  · refine mk s1 fun cs h2 s2=>?_
    refine lT (sp_mail_New s.fCores (by omega) (by omega)) s2 fun pm h3 s3=>?_
    refine lT (rH s.fCores (by omega) (by omega)) s3 fun pe h4 s4=>?_
    rw [em] at s4
    refine oR s4 fun b h5 s5=>?_
    refine Lp.intro (fun (i:Int) h=>newI s b n pp pm pe cs i h) (fun (i:Int) _=>n - i.toNat) (new_start (ba [0,3,1,0,0] s5 rfl)) ?_
    intro i h H
    unfold kern_New_l3
    refine aV (fun d=>new_round hn8 H (by have:=of_decide_eq_true d; omega)) (fun d=>?_)
    have:i = n:=by obtain ⟨j,_,_,e,hj,_⟩:=H; have:=of_decide_eq_false d; omega
    subst this
    exact new_end hs hn H
end Go.Proofs.YtmggcfijlpldpaaGreatDoor
