/- Part of the proof of: The law ShootRevoke returns true for every input, and leaves its arguments as they were. -/
import Derived.Test.YtemoifebbhoinaaGreatDoorShootRevoke13
set_option linter.all false
set_option maxRecDepth 20000
namespace Go.Proofs.YtemoifebbhoinaaGreatDoor
open Go Mb
set_option linter.unusedVariables false
def sh_ticket_New (K:Ptr→Hp→Prop):Hp→Prop:=cl Tryz.prog tj [(.int .u64 0)] pj fun r1=>cl Tryz.prog tj [(.int .u64 0)] pj fun r2=>nw mK (kJ.C (⟨r1,r2⟩:kJ)) fun b4=>K (some (b4,0))
theorem sim_ticket_New {K:Ptr→Hp→Prop} {h:Hp} (H:sh_ticket_New K h):Ct Tryz.prog wZ #[] h fun v h'=>∃ r,v = tG r∧K r h':=aw [] Tryz.func210 c c c fun _=>M<|O c<|M<|aa<|Z H en_209 fun r1 _ H1=>aa<|Z H1 en_209 fun r2 _ H2=>p (aY c<|build_287_0_1 r1 r2)<|aa<|ie c c c H2 fun b4 _ H3=>O c<|aj<|Y ⟨some (b4,0),c,H3⟩
def rB (a0:Ptr) (K:Int→Hp→Prop):Hp→Prop:=br a0.isNone ( K 0) ( nn a0 fun q9=>ld (q9.1,q9.2 + 0) cP fun x11=>cl Tryz.prog oU [(pv x11),(.int .u64 18446744073709551615)] bK fun r12=>K (IntKind.u64.wrap (r12.1 - 1)))
theorem sim_ticket_Lock_Draw (a0:Ptr) {K:Int→Hp→Prop} {h:Hp} (H:rB a0 K h):Ct Tryz.prog nq #[(pv a0)] h fun v h'=>∃ r,v = gS r∧K r h':=aw [(pv a0)] Tryz.func212 c c c fun _=>M<|O c<|al<|M<|J c<|p (cn Tryz.underlying268 c)<|ad<|av c H (fun k1 H2=>M<|O c<|aj<|Y ⟨0,c,H2⟩) fun k1 H2=>ao<|M<|J c<|bF H2 fun q9 e3 H4=>p (aL<|aN c<|ap e3)<|p (ae fld_287_0 c)<|aa<|aW H4 sc_266 c (fun _=>c) c fun x11 H5=>aa<|Z H5 en_211 fun r12 _ H6=>J c<|p (ak c c)<|p (ak c c)<|p (au c)<|O c<|M<|J c<|p (v_sub c c)<|O c<|aj<|Y ⟨IntKind.u64.wrap (r12.1 - 1),c,H6⟩
def rz (a0:Ptr) (a1:Int) (K:Bool→Hp→Prop):Hp→Prop:=br (!a0.isNone) ( nn a0 fun q9=>ld (q9.1,q9.2 + 1) cP fun x11=>cl Tryz.prog mf [(pv x11)] gS fun r12=>br (r12 == a1) ( ld (q9.1,q9.2 + 0) cP fun x21=>cl Tryz.prog mf [(pv x21)] gS fun r22=>K (decide (a1 < r22))) ( K false)) ( K false)
theorem sim_ticket_Lock_Turn (a0:Ptr) (a1:Int) {K:Bool→Hp→Prop} {h:Hp} (H:rz a0 a1 K h):Ct Tryz.prog ka #[(pv a0),(.int .u64 a1)] h fun v h'=>∃ r,v = aC r∧K r h':=aw [(pv a0),(.int .u64 a1)] Tryz.func214 c c c fun _=>M<|O c<|M<|J c<|p (v_pneT Tryz.underlying268 c)<|J c<|V c c (az _) (fun g1=>wv<|ai c)<|bU H (fun k3 H4=>bF H4 fun q9 e5 H6=>F (D k3)<|R (aL<|aN (aD c k3)<|ap e5)<|F (D k3)<|R (ae fld_287_1 c)<|F (D k3)<|aW H6 sc_266 c (fun _=>c) c fun x11 H7=>F (D k3)<|Z H7 en_224 fun r12 _ H8=>F (D k3)<|R (ai c)<|F (D k3)<|R (bO c c)<|p (aU c k3 c)<|J c<|V c c (az _) (fun g9=>wv<|ai c)<|V c c (az _) (fun g10=>wv<|ai<|aN c<|ap e5)<|V c c (az _) (fun g11=>wv<|aL<|aD c g11)<|V c c (az _) (fun g12=>wv<|ae fld_287_0<|aD c g12)<|bU H8 (fun k14 H15=>F (D k14)<|aW H15 sc_266 (aD c k14) (fun _=>c) c fun x21 H16=>F (D k14)<|Z H16 en_224 fun r22 _ H17=>F (D k14)<|R (cC (aD c k14) c)<|p (aU c k14 c)<|O c<|aj<|Y ⟨decide (a1 < r22),c,H17⟩) fun k14 H15=>W (aR k14)<|W (aR k14)<|W (aR k14)<|p (aq c k14 c)<|O c<|aj<|Y ⟨false,c,H15⟩) fun k3 H4=>W (aR k3)<|W (aR k3)<|W (aR k3)<|W (aR k3)<|W (aR k3)<|W (aR k3)<|p (aq c k3 c)<|J c<|W c<|W c<|W c<|W c<|W c<|W c<|W c<|p (aq c c c)<|O c<|aj<|Y ⟨false,c,H4⟩
def rA (a0:Ptr) (a1:Int) (K:Bool→Hp→Prop):Hp→Prop:=cl Tryz.prog ka [(pv a0),(.int .u64 a1)] aC fun r7=>br r7 ( nn a0 fun q10=>ld (q10.1,q10.2 + 1) cP fun x12=>cl Tryz.prog rn [(pv x12),(.int .u64 a1),(.int .u64 (IntKind.u64.wrap (a1 + 1)))] aC fun r16=>K r16) ( K false)
theorem sim_ticket_Lock_Pass (a0:Ptr) (a1:Int) {K:Bool→Hp→Prop} {h:Hp} (H:rA a0 a1 K h):Ct Tryz.prog np #[(pv a0),(.int .u64 a1)] h fun v h'=>∃ r,v = aC r∧K r h':=aw [(pv a0),(.int .u64 a1)] Tryz.func215 c c c fun _=>M<|O c<|M<|J c<|J c<|aa<|Z H en_214 fun r7 _ H1=>J c<|V c c (az _) (fun g2=>wv<|ai c)<|bU H1 (fun k4 H5=>bF H5 fun q10 e6 H7=>F (D k4)<|R (aL<|aN (aD c k4)<|ap e6)<|F (D k4)<|R (ae fld_287_1 c)<|F (D k4)<|aW H7 sc_266 c (fun _=>c) c fun x12 H8=>F (D k4)<|R (ai c)<|F (D k4)<|R (ai c)<|F (D k4)<|R (bw c c)<|F (D k4)<|Z H8 en_225 fun r16 _ H9=>p (aU c k4 c)<|O c<|aj<|Y ⟨r16,c,H9⟩) fun k4 H5=>W (aR k4)<|W (aR k4)<|W (aR k4)<|W (aR k4)<|W (aR k4)<|W (aR k4)<|W (aR k4)<|p (aq c k4 c)<|O c<|aj<|Y ⟨false,c,H5⟩
end Go.Proofs.YtemoifebbhoinaaGreatDoor
namespace Go.Proofs.YtemoifebbhoinaaGreatDoor
open Go Mb
def kS (x:Ptr) (c:Int × Int):As:=fun h=>∃ b:Nat,(x = some (b,0))∧aG [blk b qD [.int .u64 c.1,.int .i64 c.2]] h
theorem cell_op {x:Ptr} {c:Int × Int} {l:List As} {h:Hp} (s0:aG (kS x c::l) h):∃ b,x = some (b,0)∧aG (blk b qD [.int .u64 c.1,.int .i64 c.2]::l) h:=by
  obtain ⟨b,hx,st⟩:=op_ s0
  exact ⟨b,hx,st⟩
theorem cell_cl {b:Nat} {v n:Int} {l:List As} {h:Hp} (st:aG (blk b qD [.int .u64 v,.int .i64 n]::l) h):aG (kS (some (b,0)) (v,n)::l) h:=cl_ (m:=fun b=>[blk b qD [.int .u64 (v,n).1,.int .i64 (v,n).2]]) b rfl st
namespace Cell
def tick (c:Int × Int):Int × Int:=(c.1,IntKind.i64.wrap (c.2 + 1))
def cas (c:Int × Int) (o v:Int):Bool × Int × Int:=if c.1 = o then (true,v,(tick c).2) else (false,tick c)
def up (c:Int × Int) (m:Int):(Int × Bool) × Int × Int:=if c.1 ≥ m then ((c.1,false),tick c) else ((IntKind.u64.wrap (c.1 + 1),true),(IntKind.u64.wrap (c.1 + 1),(tick c).2))
end Cell
theorem sp_cell_New (v:Int):Sp Tryz.prog tj [.int .u64 v] pj [] (fun r=>aG [kS r (v,0)]):=by
  intro h st
  refine sim_cell_New _ ?_
  unfold sh_cell_New
  exact pt st fun b h' s1=>cell_cl s1
theorem sp_cell_Load (x:Ptr) (c:Int × Int):Sp Tryz.prog mf [pv x] gS [kS x c] (fun r=>pa_ (r = c.1) [kS x (Cell.tick c)]):=by
  intro h s0
  obtain ⟨b,rfl,st⟩:=cell_op s0
  refine sim_cell_Cell_Load _ ?_
  unfold ui
  refine di rfl (cE ?_)
  refine bk c.2 st (i:=0) rfl rfl rfl ?_
  refine uI (i:=0) st rfl (Nat.le_refl _) fun h2 s2=>?_
  refine bk c.1 s2 (i:=0) rfl rfl rfl ?_
  exact aX rfl (cell_cl s2)
theorem sp_cell_Cas (x:Ptr) (c:Int × Int) (o v:Int):Sp Tryz.prog rn [pv x,.int .u64 o,.int .u64 v] aC [kS x c] (fun r=>pa_ (r = (Cell.cas c o v).1) [kS x (Cell.cas c o v).2]):=by
  intro h s0
  obtain ⟨b,rfl,st⟩:=cell_op s0
  refine sim_cell_Cell_Cas _ _ _ ?_
  unfold vB
  refine di rfl (cE ?_)
  refine bk c.2 st (i:=0) rfl rfl rfl ?_
  refine uI (i:=0) st rfl (Nat.le_refl _) fun h2 s2=>?_
  refine bk c.1 s2 (i:=0) rfl rfl rfl ?_
  refine ba (fun k=>?_) (fun k=>?_)
  · have k':¬ c.1 = o:=by simpa using k
    have e:Cell.cas c o v = (false,Cell.tick c):=if_neg k'
    rw [e]
    exact aX rfl (cell_cl s2)
  · have k':c.1 = o:=by simpa using k
    have e:Cell.cas c o v = (true,v,(Cell.tick c).2):=if_pos k'
    rw [e]
    refine uI (i:=0) s2 rfl (show 0 + 0 + 1 ≤ 2 by decide) fun h3 s3=>?_
    exact aX rfl (cell_cl s3)
theorem sp_cell_Up (x:Ptr) (c:Int × Int) (m:Int):Sp Tryz.prog oU [pv x,.int .u64 m] bK [kS x c] (fun r=>pa_ (r = (Cell.up c m).1) [kS x (Cell.up c m).2]):=by
  intro h s0
  obtain ⟨b,rfl,st⟩:=cell_op s0
  refine sim_cell_Cell_Up _ _ ?_
  unfold sh_cell_Cell_Up
  refine di rfl (cE ?_)
  refine bk c.2 st (i:=0) rfl rfl rfl ?_
  refine uI (i:=0) st rfl (Nat.le_refl _) fun h2 s2=>?_
  refine bk c.1 s2 (i:=0) rfl rfl rfl ?_
  refine ba (fun k=>?_) (fun k=>?_)
  · have k':c.1 ≥ m:=by simpa using k
    have e:Cell.up c m = ((c.1,false),Cell.tick c):=if_pos k'
    rw [e]
    refine bk c.1 s2 (i:=0) rfl rfl rfl ?_
    exact aX rfl (cell_cl s2)
  · have k':¬ c.1 ≥ m:=by simpa using k
    have e:Cell.up c m = ((IntKind.u64.wrap (c.1 + 1),true),(IntKind.u64.wrap (c.1 + 1),(Cell.tick c).2)):=if_neg k'
    rw [e]
    refine bk c.1 s2 (i:=0) rfl rfl rfl ?_
    refine uI (i:=0) s2 rfl (show 0 + 0 + 1 ≤ 2 by decide) fun h3 s3=>?_
    refine bk (IntKind.u64.wrap (c.1 + 1)) s3 (i:=0) rfl rfl rfl ?_
    exact aX rfl (cell_cl s3)
def uT (x:Ptr) (k:(Int × Int) × (Int × Int)):As:=fun h=>∃ bs:Nat × Ptr × Ptr,(x = some (bs.1,0))∧aG [blk bs.1 mK [pv bs.2.1,pv bs.2.2],kS bs.2.1 k.1,kS bs.2.2 k.2] h
theorem lock_op {x:Ptr} {k:(Int × Int) × (Int × Int)} {l:List As} {h:Hp} (s0:aG (uT x k::l) h):∃ b p q,x = some (b,0)∧aG (blk b mK [pv p,pv q]::kS p k.1::kS q k.2::l) h:=by
  obtain ⟨⟨b,p,q⟩,hx,st⟩:=op_ s0
  exact ⟨b,p,q,hx,st⟩
theorem lock_cl {b:Nat} {p q:Ptr} {k1 k2:Int × Int} {l:List As} {h:Hp} (st:aG (blk b mK [pv p,pv q]::kS p k1::kS q k2::l) h):aG (uT (some (b,0)) (k1,k2)::l) h :=
  cl_ (m:=fun bs:Nat × Ptr × Ptr=>[blk bs.1 mK [pv bs.2.1,pv bs.2.2],kS bs.2.1 (k1,k2).1,kS bs.2.2 (k1,k2).2]) (b,p,q) rfl st
namespace Lock
abbrev S:=(Int × Int) × (Int × Int)
def draw (k:S):Int × S:=(IntKind.u64.wrap ((Cell.up k.1 18446744073709551615).1.1 - 1),((Cell.up k.1 18446744073709551615).2,k.2))
def turn (k:S) (t:Int):Bool × S:=if k.2.1 = t then (decide (t < k.1.1),(Cell.tick k.1,Cell.tick k.2)) else (false,(k.1,Cell.tick k.2))
def pass (k:S) (t:Int):Bool × S:=if (turn k t).1 then ((Cell.cas (turn k t).2.2 t (IntKind.u64.wrap (t + 1))).1,((turn k t).2.1,(Cell.cas (turn k t).2.2 t (IntKind.u64.wrap (t + 1))).2)) else (false,(turn k t).2)
end Lock
theorem sp_ticket_New:Sp Tryz.prog wZ [] tG [] (fun r=>aG [uT r ((0,0),(0,0))]):=by
  intro h st
  refine sim_ticket_New ?_
  unfold sh_ticket_New
  refine cT [] (sp_cell_New 0) st rfl fun p h1 s1=>?_
  refine cT [] (sp_cell_New 0) (dD s1) rfl fun q h2 s2=>?_
  refine pt (dD s2) fun b h3 s3=>?_
  exact lock_cl (bd [0,1] s3 rfl)
theorem sp_ticket_Draw (x:Ptr) (k:Lock.S):Sp Tryz.prog nq [pv x] gS [uT x k] (fun r=>pa_ (r = (Lock.draw k).1) [uT x (Lock.draw k).2]):=by
  intro h s0
  obtain ⟨b,p,q,rfl,st⟩:=lock_op s0
  refine sim_ticket_Lock_Draw _ ?_
  unfold rB
  refine di rfl (cE ?_)
  refine bk p st (i:=0) rfl rfl rfl ?_
  refine cT [1] (sp_cell_Up p k.1 _) st rfl fun r h1 s1=>?_
  obtain ⟨hr,s2⟩:=bp.1 s1
  subst hr
  exact aX rfl (lock_cl (bd [1] s2 rfl))
theorem sp_ticket_Turn (x:Ptr) (k:Lock.S) (t:Int):Sp Tryz.prog ka [pv x,.int .u64 t] aC [uT x k] (fun r=>pa_ (r = (Lock.turn k t).1) [uT x (Lock.turn k t).2]):=by
  intro h s0
  obtain ⟨b,p,q,rfl,st⟩:=lock_op s0
  refine sim_ticket_Lock_Turn _ _ ?_
  unfold rz
  refine dG rfl (cE ?_)
  refine bk q st (i:=0) rfl rfl rfl ?_
  refine cT [2] (sp_cell_Load q k.2) st rfl fun r h1 s1=>?_
  obtain ⟨hr,s2⟩:=bp.1 s1
  subst hr
  refine ba (fun c=>?_) (fun c=>?_)
  · have c':k.2.1 = t:=by simpa using c
    have e:Lock.turn k t = (decide (t < k.1.1),(Cell.tick k.1,Cell.tick k.2)):=if_pos c'
    rw [e]
    refine bk p s2 (i:=1) rfl rfl rfl ?_
    refine cT [2] (sp_cell_Load p k.1) s2 rfl fun r h2 s3=>?_
    obtain ⟨hr,s4⟩:=bp.1 s3
    subst hr
    exact aX rfl (lock_cl (bd [2] s4 rfl))
  · have c':¬ k.2.1 = t:=by simpa using c
    have e:Lock.turn k t = (false,(k.1,Cell.tick k.2)):=if_neg c'
    rw [e]
    exact aX rfl (lock_cl (bd [1,1] s2 rfl))
theorem sp_ticket_Pass (x:Ptr) (k:Lock.S) (t:Int):Sp Tryz.prog np [pv x,.int .u64 t] aC [uT x k] (fun r=>pa_ (r = (Lock.pass k t).1) [uT x (Lock.pass k t).2]):=by
  intro h s0
  refine sim_ticket_Lock_Pass _ _ ?_
  unfold rA
  refine cT [0] (sp_ticket_Turn x k t) s0 rfl fun r h1 s1=>?_
  obtain ⟨hr,s2⟩:=bp.1 s1
  subst hr
  refine ba (fun c=>?_) (fun c=>?_)
  · have e:Lock.pass k t = ((Cell.cas (Lock.turn k t).2.2 t (IntKind.u64.wrap (t + 1))).1,((Lock.turn k t).2.1,(Cell.cas (Lock.turn k t).2.2 t (IntKind.u64.wrap (t + 1))).2)):=if_pos c
    rw [e]
    obtain ⟨b,p,q,rfl,st⟩:=lock_op s2
    refine cE (bk q st (i:=0) rfl rfl rfl ?_)
    refine cT [2] (sp_cell_Cas q _ t _) st rfl fun r h2 s3=>?_
    obtain ⟨hr,s4⟩:=bp.1 s3
    subst hr
    exact aX rfl (lock_cl (bd [1,1] s4 rfl))
  · have e:Lock.pass k t = (false,(Lock.turn k t).2):=by unfold Lock.pass; rw [c]; rfl
    rw [e]
    exact aX rfl s2
end Go.Proofs.YtemoifebbhoinaaGreatDoor
namespace Go.Proofs.YtemoifebbhoinaaGreatDoor
open Go Mb
set_option linter.unusedVariables false
def pB (K:Bool→Hp→Prop):Hp→Prop:=cl Tryz.prog vM [(.int .i64 2)] tH fun r24=>cl Tryz.prog lw [] iv fun r25=>cl Tryz.prog iE [] gJ fun r26=>cl Tryz.prog tg [(.int .i64 3)] ph fun r27=>cl Tryz.prog tj [(.int .u64 5)] pj fun r28=>cl Tryz.prog wZ [] tG fun r29=>cl Tryz.prog xa [(.int .i64 2)] so fun r30=>br ((((((r24.isNone || r25.isNone) || r26.isNone) || r27.isNone) || r28.isNone) || r29.isNone) || r30.isNone) ( K false) ( cl Tryz.prog dY [(pv r25),(.int .i64 1),(.agg (am.C (⟨1,2,3⟩:am)).toArray)] bh fun r59=>cl Tryz.prog oN [(pv r26),(.agg (an.C (⟨1,5,1,1⟩:an)).toArray)] aC fun r67=>cl Tryz.prog oM [(pv r26),(.int .i64 1),(.int .i64 5)] fJ fun r70=>cl Tryz.prog na [(pv r27),(.int .i64 0),(.int .u64 4)] eB fun r74=>cl Tryz.prog ma [(pv r27),(.int .i64 2)] bK fun r77=>cl Tryz.prog oU [(pv r28),(.int .u64 9)] bK fun r82=>cl Tryz.prog nq [(pv r29)] gS fun r86=>cl Tryz.prog jA [(pv r30)] bL fun r89=>cl Tryz.prog lD [] aC fun r97=>br (((((((((((r97 && (r59 == 0)) && (eV (⟨1,2,3⟩:am)).2) && (((eV (⟨1,2,3⟩:am)).1) == 33059)) && r67) && r70.2) && (r70.1.fFrame == 1)) && (r74 == 2)) && (r77.1 == 4)) && r77.2) && (r82.1 == 6)) && (r86 == 0)) ( cl Tryz.prog ka [(pv r29),(.int .u64 0)] aC fun r141=>br r141 ( cl Tryz.prog np [(pv r29),(.int .u64 0)] aC fun r145=>br ((r145 && (r89.1 == 0)) && r89.2) ( cl Tryz.prog fF [(pv r24),(.int .i64 1),(.int .i64 3),(.int .u64 9)] aC fun r156=>br ((r156 && (aA (⟨6,0,0,0,0⟩:ah)).2) && (((aA (⟨6,0,0,0,0⟩:ah)).1) == 6)) ( cl Tryz.prog gX [(.agg (ah.C (⟨6,8,0,1,0⟩:ah)).toArray),(.int .i64 2)] bh fun r167=>br (r167 == 2) ( cl Tryz.prog n_word_Args [(.int .i64 3)] eB fun r171=>br ((r171 == 4) && (aQ 1 3)) ( cl Tryz.prog lW [(pv r25),(.int .i64 2)] cu fun r179=>br ((r179.len:Int) == 1) ( cl Tryz.prog pX [(pv r30)] gS fun r185=>K (r185 == 2)) ( K false)) ( K false)) ( K false)) ( K false)) ( K false)) ( K false)) ( K false))
theorem wE {K:Bool→Hp→Prop} {h:Hp} (H:pB K h):Ct Tryz.prog lA #[] h fun v h'=>∃ r,v = aC r∧K r h':=aw [] Tryz.func187 c c c fun _=>M<|O c<|M<|aa<|Z H en_104 fun r24 _ H1=>aa<|Z H1 en_107 fun r25 _ H2=>aa<|Z H2 en_59 fun r26 _ H3=>aa<|Z H3 en_57 fun r27 _ H4=>p (au c)<|p (au c)<|p (au c)<|O c<|M<|aa<|Z H4 en_209 fun r28 _ H5=>aa<|Z H5 en_210 fun r29 _ H6=>aa<|Z H6 en_105 fun r30 _ H7=>p (au c)<|p (au c)<|O c<|al<|M<|J c<|p (cn Tryz.underlying152 c)<|J c<|V c c (aJ _) (fun g8=>wv<|ai c)<|V c c (aJ _) (fun g9=>wv<|cn Tryz.underlying161<|aD c g9)<|p (dm c c)<|J c<|V c c (aJ _) (fun g10=>wv<|ai c)<|V c c (aJ _) (fun g11=>wv<|cn Tryz.underlying114<|aD c g11)<|p (dm c c)<|J c<|V c c (aJ _) (fun g12=>wv<|ai c)<|V c c (aJ _) (fun g13=>wv<|cn Tryz.underlying105<|aD c g13)<|p (dm c c)<|J c<|V c c (aJ _) (fun g14=>wv<|ai c)<|V c c (aJ _) (fun g15=>wv<|cn Tryz.underlying266<|aD c g15)<|p (dm c c)<|J c<|V c c (aJ _) (fun g16=>wv<|ai c)<|V c c (aJ _) (fun g17=>wv<|cn Tryz.underlying268<|aD c g17)<|p (dm c c)<|J c<|V c c (aJ _) (fun g18=>wv<|ai c)<|V c c (aJ _) (fun g19=>wv<|cn Tryz.underlying154<|aD c g19)<|p (dm c c)<|ad<|av c H7 (fun k20 H21=>M<|O c<|aj<|Y ⟨false,c,H21⟩) fun k20 H21=>ao<|M<|J c<|p (aY c<|pb 1 2 3)<|aa<|Z H21 en_112 fun r59 _ H22=>O c<|M<|p (aY c<|pb 1 2 3)<|aa<|cN (vs:=[(.agg (am.C (⟨1,2,3⟩:am)).toArray)]) (bu<|ct_pte_Put (⟨1,2,3⟩:am) _) en_155 c c<|J c<|p (ak c c)<|p (ak c c)<|p (au c)<|O c<|M<|J c<|p (aY c<|we 1 5 1 1)<|aa<|Z H22 en_159 fun r67 _ H23=>O c<|M<|J c<|aa<|Z H23 en_157 fun r70 _ H24=>J c<|p (ak c c)<|p (ak c c)<|aa<|aI (l:=an.C (⟨0,0,0,0⟩:an)) kV c c fun b12=>aa<|aO (k:=0) (vs:=an.C r70.1) fL c c c c c c c<|O c<|M<|J c<|aa<|Z H24 en_70 fun r74 _ H25=>O c<|M<|J c<|aa<|Z H25 en_97 fun r77 _ H26=>J c<|p (ak c c)<|p (ak c c)<|p (au c)<|O c<|M<|J c<|aa<|Z H26 en_211 fun r82 _ H27=>J c<|p (ak c c)<|p (ak c c)<|p (au c)<|O c<|M<|J c<|aa<|Z H27 en_212 fun r86 _ H28=>O c<|M<|J c<|aa<|Z H28 en_171 fun r89 _ H29=>J c<|p (ak c c)<|p (ak c c)<|p (au c)<|O c<|M<|p (aY c<|build_34_0 6)<|aa<|cN (vs:=[(.agg (ah.C (⟨6,0,0,0,0⟩:ah)).toArray)]) (bu<|kq (⟨6,0,0,0,0⟩:ah) _) en_63 c c<|J c<|p (ak c c)<|p (ak c c)<|p (au c)<|O c<|M<|aa<|Z H29 en_213 fun r97 _ H30=>J c<|V c c (az _) (fun g31=>wv<|ai c)<|V c c (az _) (fun g32=>wv<|bO (aD c g32) c)<|p (bS c c)<|J c<|V c c (az _) (fun g33=>wv<|ai c)<|p (bS c c)<|J c<|V c c (az _) (fun g34=>wv<|ai c)<|V c c (az _) (fun g35=>wv<|bO (aD c g35) c)<|p (bS c c)<|J c<|V c c (az _) (fun g36=>wv<|ai c)<|p (bS c c)<|J c<|V c c (az _) (fun g37=>wv<|ai c)<|p (bS c c)<|J c<|V c c (az _) (fun g38=>wv<|ae lJ c)<|V c c (az _) (fun g39=>cv<|bf (k:=0) bb (aD c g39) c c)<|V c c (az _) (fun g40=>wv<|bO (aD c g40) c)<|p (bS c c)<|J c<|V c c (az _) (fun g41=>wv<|ai c)<|V c c (az _) (fun g42=>wv<|bO (aD c g42) c)<|p (bS c c)<|J c<|V c c (az _) (fun g43=>wv<|ai c)<|V c c (az _) (fun g44=>wv<|bO (aD c g44) c)<|p (bS c c)<|J c<|V c c (az _) (fun g45=>wv<|ai c)<|p (bS c c)<|J c<|V c c (az _) (fun g46=>wv<|ai c)<|V c c (az _) (fun g47=>wv<|bO (aD c g47) c)<|p (bS c c)<|J c<|V c c (az _) (fun g48=>wv<|ai c)<|V c c (az _) (fun g49=>wv<|bO (aD c g49) c)<|p (bS c c)<|J c<|V c c (az _) (fun g50=>wv<|ai c)<|bU H30 (fun k52 H53=>F (D k52)<|gw H53 en_214 (aT (aD c k52)<|aT c bQ) c fun r141 _ H54=>p (aU c k52 c)<|J c<|V c c (az _) (fun g55=>wv<|ai c)<|bU H54 (fun k57 H58=>F (D k57)<|gw H58 en_215 (aT (aD c k57)<|aT c bQ) c fun r145 _ H59=>p (aU c k57 c)<|J c<|V c c (az _) (fun g60=>wv<|ai c)<|V c c (az _) (fun g61=>wv<|bO (aD c g61) c)<|p (bS c c)<|J c<|V c c (az _) (fun g62=>wv<|ai c)<|p (bS c c)<|J c<|V c c (az _) (fun g63=>wv<|ai c)<|bU H59 (fun k65 H66=>F (D k65)<|gw H66 en_162 (aT (aD c k65)<|aT c<|aT c<|aT c bQ) c fun r156 _ H67=>p (aU c k65 c)<|J c<|V c c (az _) (fun g68=>wv<|ai c)<|p (bS c c)<|J c<|V c c (az _) (fun g69=>wv<|ai c)<|V c c (az _) (fun g70=>wv<|bO (aD c g70) c)<|p (bS c c)<|J c<|V c c (az _) (fun g71=>wv<|aY c<|fo 6 8 0 1)<|bU H67 (fun k73 H74=>F (D k73)<|gw H74 en_110 (aT (aD c k73)<|aT c bQ) c fun r167 _ H75=>F (D k73)<|R (bO c c)<|p (aU c k73 c)<|J c<|bU H75 (fun k77 H78=>F (D k77)<|Z H78 en_216 fun r171 _ H79=>F (D k77)<|R (bO c c)<|p (aU c k77 c)<|J c<|db (vs:=[(.int .i64 1),(.int .i64 3)]) c c c (az _) (fun g80=>bu<|df 1 3 _) mC (fun g80=>c) c<|p (bS c c)<|J c<|V c c (az _) (fun g81=>wv<|ai c)<|bU H79 (fun k83 H84=>F (D k83)<|gw H84 en_176 (aT (aD c k83)<|aT c bQ) c fun r179 _ H85=>F (D k83)<|R (dA c Tryz.underlying39 c)<|F (D k83)<|R (bO c c)<|p (aU c k83 c)<|J c<|V c c (az _) (fun g86=>wv<|ai c)<|bU H85 (fun k88 H89=>F (D k88)<|gw H89 en_217 (aT (aD c k88) bQ) c fun r185 _ H90=>F (D k88)<|R (bO c c)<|p (aU c k88 c)<|O c<|aj<|Y ⟨(r185 == 2),c,H90⟩) fun k88 H89=>W (aR k88)<|W (aR k88)<|p (aq c k88 c)<|O c<|aj<|Y ⟨false,c,H89⟩) fun k83 H84=>W (aR k83)<|W (aR k83)<|W (aR k83)<|p (aq c k83 c)<|J c<|W c<|W c<|W c<|p (aq c c c)<|O c<|aj<|Y ⟨false,c,H84⟩) fun k77 H78=>W (aR k77)<|W (aR k77)<|p (aq c k77 c)<|J c<|W c<|p (aq c c c)<|J c<|W c<|W c<|W c<|W c<|p (aq c c c)<|J c<|W c<|W c<|W c<|p (aq c c c)<|O c<|aj<|Y ⟨false,c,H78⟩) fun k73 H74=>W (aR k73)<|W (aR k73)<|p (aq c k73 c)<|J c<|W c<|W c<|p (aq c c c)<|J c<|W c<|p (aq c c c)<|J c<|W c<|W c<|W c<|W c<|p (aq c c c)<|J c<|W c<|W c<|W c<|p (aq c c c)<|O c<|aj<|Y ⟨false,c,H74⟩) fun k65 H66=>W (aR k65)<|p (aq c k65 c)<|J c<|W c<|p (aq c c c)<|J c<|W c<|W c<|p (aq c c c)<|J c<|W c<|W c<|W c<|p (aq c c c)<|J c<|W c<|W c<|p (aq c c c)<|J c<|W c<|p (aq c c c)<|J c<|W c<|W c<|W c<|W c<|p (aq c c c)<|J c<|W c<|W c<|W c<|p (aq c c c)<|O c<|aj<|Y ⟨false,c,H66⟩) fun k57 H58=>W (aR k57)<|p (aq c k57 c)<|J c<|W c<|W c<|p (aq c c c)<|J c<|W c<|p (aq c c c)<|J c<|W c<|W c<|p (aq c c c)<|J c<|W c<|p (aq c c c)<|J c<|W c<|W c<|p (aq c c c)<|J c<|W c<|W c<|W c<|p (aq c c c)<|J c<|W c<|W c<|p (aq c c c)<|J c<|W c<|p (aq c c c)<|J c<|W c<|W c<|W c<|W c<|p (aq c c c)<|J c<|W c<|W c<|W c<|p (aq c c c)<|O c<|aj<|Y ⟨false,c,H58⟩) fun k52 H53=>W (aR k52)<|p (aq c k52 c)<|J c<|W c<|W c<|p (aq c c c)<|J c<|W c<|W c<|p (aq c c c)<|J c<|W c<|p (aq c c c)<|J c<|W c<|W c<|p (aq c c c)<|J c<|W c<|p (aq c c c)<|J c<|W c<|W c<|p (aq c c c)<|J c<|W c<|W c<|W c<|p (aq c c c)<|J c<|W c<|W c<|p (aq c c c)<|J c<|W c<|p (aq c c c)<|J c<|W c<|W c<|W c<|W c<|p (aq c c c)<|J c<|W c<|W c<|W c<|p (aq c c c)<|O c<|aj<|Y ⟨false,c,H53⟩
def pC (K:Bool→Hp→Prop):Hp→Prop:=cl Tryz.prog lA [] aC fun r1=>K r1
theorem wF {K:Bool→Hp→Prop} {h:Hp} (H:pC K h):Ct Tryz.prog lB #[] h fun v h'=>∃ r,v = aC r∧K r h':=aw [] Tryz.func146 c c c fun _=>M<|O c<|M<|aa<|Z H en_187 fun r1 _ H1=>O c<|aj<|Y ⟨r1,c,H1⟩
end Go.Proofs.YtemoifebbhoinaaGreatDoor
namespace Go.Proofs.YtemoifebbhoinaaGreatDoor
open Go Mb
variable {ET:Nat} {EF:Nat × Nat}
section
variable {l:List As} {h:Hp} {x:Ptr}
theorem mem_nn {fs:List (List Int)} (s:aG (ir x fs::l) h):x.isNone = false:=by obtain ⟨b,_,_,rfl,_⟩:=mem_op s; rfl
theorem nn_of {α:Type} {φ:α→Prop} {m:α→List As} (hx:∀ z,φ z→x.isNone = false) (s:aG ((fun h=>∃ z,φ z∧aG (m z) h)::l) h):x.isNone = false:=by
  obtain ⟨z,f,_⟩:=op_ s
  exact hx z f
theorem table_nn {ps:List Pte} (s:aG (cZ x ps::l) h):x.isNone = false:=nn_of (fun _ e=>by rw [e.1]; rfl) s
theorem tlb_nn {t:List TL × Int} (s:aG (fG x t::l) h):x.isNone = false:=nn_of (fun _ e=>by rw [e.1]; rfl) s
theorem mail_nn {bs:List (List Int)} (s:aG (jk x bs::l) h):x.isNone = false:=nn_of (fun _ e=>by rw [e.1]; rfl) s
theorem cell_nn {c:Int × Int} (s:aG (kS x c::l) h):x.isNone = false:=nn_of (fun _ e=>by rw [e]; rfl) s
theorem lock_nn {k:(Int × Int) × (Int × Int)} (s:aG (uT x k::l) h):x.isNone = false:=nn_of (fun _ e=>by rw [e]; rfl) s
theorem pool_nn {p:List Int} (s:aG (fX x p::l) h):x.isNone = false:=nn_of (fun _ e=>by rw [e.1]; rfl) s
end
theorem sp_Begun1:Sp Tryz.prog lD [] aC [(etB ET EF)] (fun r=>pa_ (r = true) [(etB ET EF)]):=by
  intro h st
  refine wH ?_
  unfold pE
  exact bM (i:=0) sp_begun1 rfl st fun r h' hr s=>aX hr s
theorem sp_begun2:Sp Tryz.prog lA [] aC [(etB ET EF)] (fun r=>pa_ (r = true) [(etB ET EF)]):=by
  intro h st
  refine wE ?_
  unfold pB
  refine lL (sp_mem_New 2 (by decide) (by decide)) st fun a1 h1 s1=>?_
  refine lL ov s1 fun a2 h2 s2=>?_
  refine lL wo s2 fun a3 h3 s3=>?_
  refine lL (sp_mail_New 3 (by decide) (by decide)) s3 fun a4 h4 s4=>?_
  refine lL (sp_cell_New 5) s4 fun a5 h5 s5=>?_
  refine lL sp_ticket_New s5 fun a6 h6 s6=>?_
  refine lL (sp_pool_New 2 (by decide) (by decide)) s6 fun a7 h7 s7=>?_
  have n1:=mem_nn s1
  have n2:=table_nn s2
  have n3:=tlb_nn s3
  have n4:=mail_nn s4
  have n5:=cell_nn s5
  have n6:=lock_nn s6
  have n7:=pool_nn s7
  rw [n1,n2,n3,n4,n5,n6,n7]
  refine di rfl ?_
  refine bM (i:=5) (kw a2 _ 1 ⟨1,2,3⟩) rfl s7 fun r1 h8 e1 s8=>?_
  refine bM (i:=4) (sp_tlb_Fill a3 _ ⟨1,5,1,1⟩) rfl s8 fun r2 h9 e2 s9=>?_
  refine bM (i:=4) (sp_tlb_Find a3 _ 1 5) rfl s9 fun r3 h10 e3 s10=>?_
  refine bM (i:=3) (sp_mail_All a4 _ 0 4 (fun l hl=>?_)) rfl s10 fun r4 h11 e4 s11=>?_
  · have:l = []:=by simpa using hl
    subst this
    exact ⟨fun _ h=>(by cases h),.nil,by decide⟩
  refine bM (i:=3) (sp_mail_Take a4 _ 2) rfl s11 fun r5 h12 e5 s12=>?_
  refine bM (i:=2) (sp_cell_Up a5 _ 9) rfl s12 fun r6 h13 e6 s13=>?_
  refine bM (i:=1) (sp_ticket_Draw a6 _) rfl s13 fun r7 h14 e7 s14=>?_
  refine bM (i:=0) (wq a7 _) rfl s14 fun r8 h15 e8 s15=>?_
  refine bM (i:=7) sp_Begun1 rfl s15 fun r9 h16 e9 s16=>?_
  subst e1 e2 e3 e4 e5 e6 e7 e8 e9
  refine dG (by kernel_rfl) ?_
  refine bM (i:=1) (sp_ticket_Turn a6 _ 0) rfl s16 fun r10 h17 e10 s17=>?_
  subst e10
  refine dG (by kernel_rfl) ?_
  refine bM (i:=1) (sp_ticket_Pass a6 _ 0) rfl s17 fun r11 h18 e11 s18=>?_
  subst e11
  refine dG (by kernel_rfl) ?_
  refine bM (i:=6) (lR a1 _ 1 3 9) rfl s18 fun r12 h19 e12 s19=>?_
  subst e12
  refine dG (by kernel_rfl) ?_
  refine tJ (ji ⟨6,8,0,1,0⟩ 2) s19 fun r13 h20 e13 s20=>?_
  subst e13
  refine dG (by kernel_rfl) ?_
  refine tJ (sp_word_Args 3) s20 fun r14 h21 e14 s21=>?_
  subst e14
  refine dG (by kernel_rfl) ?_
  refine uY (i:=5) (sp_table_By a2 _ 2) rfl s21 fun r15 h22 s22=>?_
  have e15:((r15.len:Int) == 1) = true:=by
    rw [(cj (j:=0) s22 rfl).1]
    kernel_rfl
  refine dG e15 ?_
  refine bM (i:=1) (sp_pool_Bits a7 _) rfl s22 fun r16 h23 e16 s23=>?_
  subst e16
  refine aX (by kernel_rfl) (cc (l:=[_,_,_,_,_,_,_,_]) s23)
theorem sp_Begun2:Sp Tryz.prog lB [] aC [(etB ET EF)] (fun r=>pa_ (r = true) [(etB ET EF)]):=by
  intro h st
  refine wF ?_
  unfold pC
  exact bM (i:=0) sp_begun2 rfl st fun r h' hr s=>aX hr s
end Go.Proofs.YtemoifebbhoinaaGreatDoor
namespace Go.Proofs.YtemoifebbhoinaaGreatDoor
open Go Mb
namespace Mb
theorem least {p:Nat→Prop}:∀ (n:Nat),p n→∃ m,p m∧∀ k,p k→m ≤ k:=by
  intro n
  induction n using Nat.strongRecOn with
  | _ n ih =>
    intro hn
    by_cases h:∃ k,k < n∧p k
    · obtain ⟨k,hk,hpk⟩:=h
      exact ih k hk hpk
    · exact ⟨n,hn,fun k hk=>Nat.le_of_not_lt fun hlt=>h ⟨k,hlt,hk⟩⟩
theorem Lp.ghost {σ γ:Type} {step:(σ→Hp→Prop)→σ→Hp→Prop} (I:γ→σ→Hp→Prop) (μ:γ→Nat) {s:σ} {h:Hp} {g:γ} (h0:I g s h)
    (hs:∀ g s h,I g s h→∀ R:σ→Hp→Prop,(∀ g' s' h',I g' s' h'→μ g' < μ g→R s' h')→step R s h):Lp step s h:=by
  have mins:∀ s h,(∃ g,I g s h)→∃ m,(∃ g,I g s h∧μ g = m)∧∀ k,(∃ g,I g s h∧μ g = k)→m ≤ k:=by
    rintro s h ⟨g,hg⟩
    exact least (p:=fun m=>∃ g,I g s h∧μ g = m) (μ g) ⟨g,hg,rfl⟩
  let M:σ→Hp→Nat:=fun s h=>@dite Nat (∃ g,I g s h) (Classical.propDecidable _) (fun H=>Classical.choose (mins s h H)) (fun _=>0)
  have hM:∀ s h,(∃ g,I g s h)→(∃ g,I g s h∧μ g = M s h)∧∀ g,I g s h→M s h ≤ μ g:=by
    intro s h H
    have e:M s h = Classical.choose (mins s h H):=by
      show @dite Nat (∃ g,I g s h) (Classical.propDecidable _) _ _ = _
      rw [dif_pos H]
    have sp:=Classical.choose_spec (mins s h H)
    rw [e]
    exact ⟨sp.1,fun g hg=>sp.2 _ ⟨g,hg,rfl⟩⟩
  refine Lp.intro (fun s h=>∃ g,I g s h) M ⟨g,h0⟩ fun s h H=>?_
  obtain ⟨⟨g,hg,e⟩,_⟩:=hM s h H
  refine hs g s h hg _ fun g' s' h' hg' hlt=>⟨⟨g',hg'⟩,?_⟩
  have:=(hM s' h' ⟨g',hg'⟩).2 g' hg'
  omega
end Mb
namespace Caps
structure Sub (t o:T):Prop where
  len:t.length = o.length
  get:∀ e s,has o e s = true→get t e s = mo∨get t e s = get o e s
def more1 (o t:T) (e s:Int):Bool × T :=
  if (at_ o e s).2 = false∨(at_ t e s).2 = true then (false,t)
  else if (at_ o e s).1.fEnv < 0 then ((root t e s (at_ o e s).1.fFrame).1 == 0,(root t e s (at_ o e s).1.fFrame).2)
  else ((derive t (at_ o e s).1.fEnv (at_ o e s).1.fSlot e s (at_ o e s).1.fRights).1 == 0,(derive t (at_ o e s).1.fEnv (at_ o e s).1.fSlot e s (at_ o e s).1.fRights).2)
def moreS (o:T) (e:Nat):Nat→Bool × T→Bool × T
  | 0,st=>st
  | n + 1,st=>((moreS o e n st).1 || (more1 o (moreS o e n st).2 e n).1,(more1 o (moreS o e n st).2 e n).2)
def moreE (o:T):Nat→Bool × T→Bool × T
  | 0,st=>st
  | m + 1,st=>moreS o m 8 (moreE o m st)
def missing (o t:T) (p:Nat × Nat):Bool:=(at_ o p.1 p.2).2 && !(at_ t p.1 p.2).2
def pairs (n:Nat):List (Nat × Nat):=(List.range n).flatMap fun e=>(List.range 8).map fun s=>(e,s)
def miss (o t:T):Nat:=(pairs o.length).countP (missing o t)
theorem mem_pairs {n e s:Nat}:(e,s) ∈ pairs n↔e < n∧s < 8:=by
  unfold pairs; simp [List.mem_flatMap]
theorem countP_lt {α:Type} {P Q:α→Bool} {a:α}:∀ {l:List α},(∀ x ∈ l,Q x = true→P x = true)→a ∈ l→P a = true→Q a = false→l.countP Q < l.countP P
  | [],_,h,_,_=>by cases h
  | x::l,h1,h2,h3,h4=>by
    have le:∀ {l:List α},(∀ x ∈ l,Q x = true→P x = true)→l.countP Q ≤ l.countP P:=fun h=>List.countP_mono_left h
    rcases List.mem_cons.1 h2 with rfl | h2
    · rw [List.countP_cons_of_pos h3,List.countP_cons_of_neg (by rw [h4]; exact Bool.false_ne_true)]
      have:=le (l:=l) (fun x hx=>h1 x (by simp [hx]))
      omega
    · have ih:=countP_lt (l:=l) (fun x hx=>h1 x (by simp [hx])) h2 h3 h4
      by_cases hq:Q x = true
      · rw [List.countP_cons_of_pos hq,List.countP_cons_of_pos (h1 x (by simp) hq)]; omega
      · rw [List.countP_cons_of_neg hq]
        by_cases hpx:P x = true
        · rw [List.countP_cons_of_pos hpx]; omega
        · rw [List.countP_cons_of_neg hpx]; omega
theorem pd {t:T} {e s:Int}:(at_ t e s).2 = true↔has t e s = true∧(get t e s).fRights ≠ 0:=by
  unfold at_; split
  · rename_i h; exact ⟨fun _=>h,fun _=>rfl⟩
  · rename_i h; exact ⟨fun hh=>(by cases hh),fun hh=>absurd hh h⟩
theorem at_fst {t:T} {e s:Int} (h:(at_ t e s).2 = true):(at_ t e s).1 = get t e s:=by
  have:=pd.1 h
  unfold at_; rw [if_pos this]
theorem sub_has {t o:T} (h:Sub t o) (e s:Int):has t e s = has o e s:=by unfold has; rw [h.len]
theorem cap_empty {n:Int} {o:T} {c:Cap} (h:CapFine n o c) (h0:c.fRights = 0):c = mo:=by
  rcases h with h | h | h
  · exact h
  · omega
  · have:=(dk h.2.2.2.1).1; omega
theorem more1_is {n:Int} {o t:T} (hn:n ≤ 16) (ok:Ok o) (F:eC n o) (okt:Ok t) (sb:Sub t o) {e s:Int} (hh:has o e s = true) :
    (more1 o t e s = (false,t)∧((at_ o e s).2 = true→(at_ t e s).2 = true∨(0 ≤ (get o e s).fEnv∧(get t (get o e s).fEnv (get o e s).fSlot).fRights = 0))) ∨
    (more1 o t e s = (true,put t e s (get o e s))∧(get t e s).fRights = 0∧(get o e s).fRights ≠ 0∧(0 ≤ (get o e s).fEnv→has t (get o e s).fEnv (get o e s).fSlot = true∧(get t (get o e s).fEnv (get o e s).fSlot).fRights ≠ 0)):=by
  by_cases h1:(at_ o e s).2 = true
  · by_cases h2:(at_ t e s).2 = true
    · left
      exact ⟨by unfold more1; rw [if_pos (.inr h2)],fun _=>.inl h2⟩
    · have hno:¬ ((at_ o e s).2 = false∨(at_ t e s).2 = true):=by simp [h1,h2]
      have hc:=(pd.1 h1).2
      have hf:=at_fst h1
      have hht:has t e s = true:=by rw [sub_has sb]; exact hh
      have h0:(get t e s).fRights = 0:=by
        by_cases hz:(get t e s).fRights = 0
        · exact hz
        · exact absurd (pd.2 ⟨hht,hz⟩) h2
      rcases F e s hh with ec | ec | ec
      · rw [ec] at hc; exact absurd rfl hc
      · right
        have hneg:(get o e s).fEnv < 0:=by omega
        have er:root t e s (get o e s).fFrame = (0,put t e s (get o e s)):=by
          unfold root
          rw [if_neg (by simp [hht]; omega),if_neg (by simp [h0])]
          have:(⟨(get o e s).fFrame,3,-1,0⟩:Cap) = get o e s:=by
            obtain ⟨a1,a2,a3,_⟩:=ec
            cases hg:get o e s
            rw [hg] at a1 a2 a3
            simp_all
          rw [this]
        refine ⟨?_,h0,hc,fun hp=>absurd hp (by omega)⟩
        unfold more1
        rw [if_neg hno,hf,if_pos hneg,er]; rfl
      · have hpos:¬ (get o e s).fEnv < 0:=by omega
        obtain ⟨p1,p2⟩:=parent_has ok hh hc ec.1
        have p1t:has t (get o e s).fEnv (get o e s).fSlot = true:=by rw [sub_has sb]; exact p1
        have hw:=dk ec.2.2.2.1
        have hmay:cg (get o e s).fRights = true:=uz.2 hw.1
        by_cases hp:(get t (get o e s).fEnv (get o e s).fSlot).fRights = 0
        · left
          have ed:derive t (get o e s).fEnv (get o e s).fSlot e s (get o e s).fRights = (3,t):=by
            unfold derive
            rw [if_neg (by simp [p1t,hht,hmay]),if_pos hp]
          refine ⟨?_,fun _=>.inr ⟨ec.1,hp⟩⟩
          unfold more1
          rw [if_neg hno,hf,if_neg hpos,ed]; rfl
        · right
          have eg:get t (get o e s).fEnv (get o e s).fSlot = get o (get o e s).fEnv (get o e s).fSlot:=by
            rcases sb.get _ _ p1 with h | h
            · rw [h] at hp; exact absurd rfl hp
            · exact h
          have ed:derive t (get o e s).fEnv (get o e s).fSlot e s (get o e s).fRights = (0,put t e s (get o e s)):=by
            unfold derive
            rw [if_neg (by simp [p1t,hht,hmay]),if_neg hp,if_neg (by simp [h0]),eg,if_neg (by simp [ec.2.2.2.1]),ec.2.2.2.2]
          refine ⟨?_,h0,hc,fun _=>⟨p1t,hp⟩⟩
          unfold more1
          rw [if_neg hno,hf,if_neg hpos,ed]; rfl
  · left
    exact ⟨by unfold more1; rw [if_pos (.inl (by simpa using h1))],fun h=>absurd h h1⟩
structure Way (o t0 t:T) (b:Bool) (D:Nat→Nat→Prop):Prop where
  ok:Ok t
  sub:Sub t o
  same:b = false→t = t0
  no:b = false→∀ e s:Nat,D e s→(more1 o t0 e s).1 = false
  le:miss o t ≤ miss o t0
  lt:b = true→miss o t < miss o t0
theorem way_step {n:Int} {o t0 t:T} {b:Bool} {D:Nat→Nat→Prop} (hn:n ≤ 16) (ok:Ok o) (F:eC n o) (w:Way o t0 t b D) {e s:Nat} (he:e < o.length) (hs:s < 8) :
    Way o t0 (more1 o t e s).2 (b || (more1 o t e s).1) (fun a i=>D a i∨(a = e∧i = s)):=by
  have hh:has o e s = true:=has_of he hs
  have hht:has t e s = true:=by rw [sub_has w.sub]; exact hh
  rcases more1_is hn ok F w.ok w.sub hh with ⟨e1,h1⟩ | ⟨e1,h0,hc,hp⟩
  · rw [e1,Bool.or_false]
    refine ⟨w.ok,w.sub,w.same,fun hb a i hd=>?_,w.le,w.lt⟩
    rcases hd with hd | ⟨rfl,rfl⟩
    · exact w.no hb a i hd
    · have:=w.same hb
      rw [← this,e1]
  · rw [e1,Bool.or_true]
    have gp:∀ a i,has o a i = true→get (put t e s (get o e s)) a i = if a = e∧i = s then get o e s else get t a i:=fun a i hai=>get_put w.ok.row hht (by rw [sub_has w.sub]; exact hai) _
    have hlt:miss o (put t e s (get o e s)) < miss o t:=by
      unfold miss
      refine countP_lt (a:=(e,s)) (fun q hq hm=>?_) (mem_pairs.2 ⟨he,hs⟩) ?_ ?_
      · unfold missing at hm ⊢
        rw [Bool.and_eq_true] at hm ⊢
        refine ⟨hm.1,?_⟩
        have hq':=(pd.1 hm.1).1
        have hm2:¬ (at_ (put t e s (get o e s)) q.1 q.2).2 = true:=by simpa using hm.2
        have:¬ (at_ t q.1 q.2).2 = true:=by
          intro hat
          apply hm2
          have h3:=pd.1 hat
          refine pd.2 ⟨by rw [put_has]; exact h3.1,?_⟩
          rw [gp _ _ hq']
          split
          · exact hc
          · exact h3.2
        simpa using this
      · unfold missing
        have a1:(at_ o e s).2 = true:=pd.2 ⟨hh,hc⟩
        have a2:(at_ t e s).2 = false:=by
          cases hat:(at_ t e s).2 with
          | false=>rfl
          | true=>exact absurd h0 (pd.1 hat).2
        simp only [a1,a2]; rfl
      · unfold missing
        have a2:(at_ (put t e s (get o e s)) e s).2 = true:=pd.2 ⟨by rw [put_has]; exact hht,by rw [gp _ _ hh,if_pos ⟨rfl,rfl⟩]; exact hc⟩
        simp only [a2]; simp
    refine ⟨ok_put w.ok hht h0 _ hp,⟨by rw [put_len]; exact w.sub.len,fun a i hai=>?_⟩,fun h=>(by cases h),fun h=>(by cases h),Nat.le_of_lt (Nat.lt_of_lt_of_le hlt w.le),fun _=>Nat.lt_of_lt_of_le hlt w.le⟩
    rw [gp a i hai]
    split
    · rename_i hai2; obtain ⟨rfl,rfl⟩:=hai2; exact .inr rfl
    · exact w.sub.get a i hai
theorem way_mono {o t0 t:T} {b:Bool} {D D':Nat→Nat→Prop} (w:Way o t0 t b D) (h:∀ e s,D' e s→D e s):Way o t0 t b D':=⟨w.ok,w.sub,w.same,fun hb e s hd=>w.no hb e s (h e s hd),w.le,w.lt⟩
theorem way_row {n:Int} {o t0 t:T} {b:Bool} {e:Nat} (hn:n ≤ 16) (ok:Ok o) (F:eC n o) (he:e < o.length) (w:Way o t0 t b (fun a i=>a < e∧i < 8)):∀ j,j ≤ 8→Way o t0 (moreS o e j (b,t)).2 (moreS o e j (b,t)).1 (fun a i=>a < e∧i < 8∨a = e∧i < j)
  | 0,_=>way_mono w fun a i h=>by rcases h with h | h; exact h; omega
  | j + 1,hj=>by
    have:=way_step hn ok F (way_row hn ok F he w j (by omega)) he (s:=j) (by omega)
    exact way_mono this fun a i h=>by
      rcases h with h | h
      · exact .inl (.inl h)
      · by_cases e1:i = j
        · exact .inr ⟨h.1,e1⟩
        · exact .inl (.inr ⟨h.1,by omega⟩)
theorem way_all {n:Int} {o t:T} (hn:n ≤ 16) (ok:Ok o) (F:eC n o) (okt:Ok t) (sb:Sub t o):∀ m,m ≤ o.length→Way o t (moreE o m (false,t)).2 (moreE o m (false,t)).1 (fun a i=>a < m∧i < 8)
  | 0,_=>⟨okt,sb,fun _=>rfl,fun _ e s h=>(by omega),Nat.le_refl _,fun h=>(by cases h)⟩
  | m + 1,hm=>by
    have:=way_row hn ok F (e:=m) (by omega) (way_all hn ok F okt sb m (by omega)) 8 (Nat.le_refl _)
    exact way_mono this fun a i h=>by
      by_cases e1:a = m
      · exact .inr ⟨e1,h.2⟩
      · exact .inl ⟨by omega,h.2⟩
theorem all_there {n:Int} {o t:T} (hn:n ≤ 16) (ok:Ok o) (F:eC n o) (okt:Ok t) (sb:Sub t o) (hno:∀ e s:Nat,e < o.length→s < 8→(more1 o t e s).1 = false):t = o:=by
  obtain ⟨rank,hr⟩:=ok.rk
  have key:∀ (r:Nat) (e s:Nat),e < o.length→s < 8→rank e s ≤ r→get t e s = get o e s:=by
    intro r
    induction r using Nat.strongRecOn with
    | _ r ih =>
      intro e s he hs hrk
      have hh:has o e s = true:=has_of he hs
      by_cases hz:(get o e s).fRights = 0
      · have e0:=cap_empty (F e s hh) hz
        rcases sb.get e s hh with h | h
        · rw [h,e0]
        · exact h
      · rcases more1_is hn ok F okt sb hh with ⟨e1,h1⟩ | ⟨e1,_⟩
        · rcases h1 (pd.2 ⟨hh,hz⟩) with h2 | ⟨h2,h3⟩
          · rcases sb.get e s hh with h | h
            · have:=(pd.1 h2).2; rw [h] at this; exact absurd rfl this
            · exact h
          · exfalso
            obtain ⟨q1,q2,q3⟩:=hr e s hh hz h2
            obtain ⟨a,i,ea,ei,ha,hi⟩:=has_nat q1
            rw [ea,ei] at q2 q3 h3
            have:=ih (rank a i) (by omega) a i ha hi (Nat.le_refl _)
            rw [this] at h3; exact q2 h3
        · have:=hno e s he hs
          rw [e1] at this; cases this
  apply List.ext_getElem?
  intro m
  by_cases hm:m < o.length
  · have hmt:m < t.length:=by rw [sb.len]; exact hm
    rw [List.getElem?_eq_getElem hm,List.getElem?_eq_getElem hmt]
    congr 1
    have l1:=ok.row _ (List.getElem_mem hm)
    have l2:=okt.row _ (List.getElem_mem hmt)
    apply List.ext_getElem (by rw [l1,l2])
    intro s h1 h2
    have hs:s < 8:=by omega
    obtain ⟨_,g1⟩:=get_nat' ok.row hm hs
    obtain ⟨_,g2⟩:=get_nat' okt.row hmt hs
    rw [← g1,← g2]
    exact key _ m s hm hs (Nat.le_refl _)
  · have hmt:¬ m < t.length:=by rw [sb.len]; exact hm
    rw [List.getElem?_eq_none (Nat.le_of_not_lt hm),List.getElem?_eq_none (Nat.le_of_not_lt hmt)]
end Caps
end Go.Proofs.YtemoifebbhoinaaGreatDoor
namespace Go.Proofs.YtemoifebbhoinaaGreatDoor
open Go Mb
theorem sp_plain_more (zb ob:Nat) (kc oc:List Value) (ts:Sl) (pc po:Ptr) (t o:Caps.T) (h4:kc[4]? = some (sv ts)) (h6:kc[6]? = some (pv pc)) (o6:oc[6]? = some (pv po)) (hl:ts.len = o.length) (hb:o.length ≤ 4) :
    Sp Tryz.prog mz [pv (some (zb,0)),pv (some (ob,0))] aC [blk zb cD kc,cM pc t,blk ob cD oc,cM po o]
      (fun r=>pa_ (r = (Caps.moreE o o.length (false,t)).1) [blk zb cD kc,cM pc (Caps.moreE o o.length (false,t)).2,blk ob cD oc,cM po o]):=by
  intro h s0
  refine sim_plain_Kernel_more _ _ ?_
  unfold qK
  refine cE (bk ts s0 (i:=0) rfl rfl h4 ?_)
  refine Lp.intro (fun (z:Bool × Int) h=>∃ m:Nat,z.2 = m∧m ≤ o.length∧z.1 = (Caps.moreE o m (false,t)).1∧aG [blk zb cD kc,cM pc (Caps.moreE o m (false,t)).2,blk ob cD oc,cM po o] h) (fun (z:Bool × Int) _=>o.length - z.2.toNat) ⟨0,rfl,Nat.zero_le _,rfl,s0⟩ ?_
  rintro ⟨b,i⟩ h ⟨m,rfl,hm,rfl,s1⟩
  unfold lq
  refine ba (fun k=>?_) (fun k=>?_)
  · have hlt:m < o.length:=by rw [hl] at k; simpa using k
    have hw:IntKind.i64.wrap ((m:Int) + 1) = ((m + 1:Nat):Int):=by rw [bR (by omega) (by omega)]; rfl
    refine Lp.intro (fun (z:Bool × Int) h=>∃ j:Nat,z.2 = j∧j ≤ 8∧z.1 = (Caps.moreS o m j (Caps.moreE o m (false,t))).1∧aG [blk zb cD kc,cM pc (Caps.moreS o m j (Caps.moreE o m (false,t))).2,blk ob cD oc,cM po o] h) (fun (z:Bool × Int) _=>8 - z.2.toNat) ⟨0,rfl,Nat.zero_le _,rfl,s1⟩ ?_
    rintro ⟨b,i⟩ h ⟨j,rfl,hj,rfl,s2⟩
    unfold lp
    refine ba (fun k2=>?_) (fun k2=>?_)
    · have hlt2:j < 8:=by have:=of_decide_eq_true k2; simp at this; omega
      have hw2:IntKind.i64.wrap ((j:Int) + 1) = ((j + 1:Nat):Int):=by rw [bR (by omega) (by omega)]; rfl
      have es:Caps.moreS o m (j + 1) (Caps.moreE o m (false,t)) = ((Caps.moreS o m j (Caps.moreE o m (false,t))).1 || (Caps.more1 o (Caps.moreS o m j (Caps.moreE o m (false,t))).2 m j).1,(Caps.more1 o (Caps.moreS o m j (Caps.moreE o m (false,t))).2 m j).2):=rfl
      generalize hst:Caps.moreS o m j (Caps.moreE o m (false,t)) = st at *
      refine cE (bk po s2 (i:=2) rfl rfl o6 ?_)
      refine bM (jW po o m j) (i:=3) rfl s2 fun r h3 hr s3=>?_
      subst hr
      refine bk pc s3 (i:=0) rfl rfl h6 ?_
      refine bM (jW pc st.2 m j) (i:=1) rfl s3 fun r h4 hr s4=>?_
      subst hr
      rw [hw2]
      refine ba (fun k3=>?_) (fun k3=>?_)
      · have k3':(Caps.at_ o m j).2 = false∨(Caps.at_ st.2 m j).2 = true:=by simpa using k3
        have e1:Caps.more1 o st.2 m j = (false,st.2):=if_pos k3'
        refine ⟨⟨j + 1,rfl,hlt2,?_,?_⟩,by simp; omega⟩
        · rw [es,e1]; simp
        · rw [es,e1]; exact s4
      · have k3':¬ ((Caps.at_ o m j).2 = false∨(Caps.at_ st.2 m j).2 = true):=by simp at k3; simp [k3]
        refine ba (fun k4=>?_) (fun k4=>?_)
        · have e1:Caps.more1 o st.2 m j = ((Caps.root st.2 m j (Caps.at_ o m j).1.fFrame).1 == 0,(Caps.root st.2 m j (Caps.at_ o m j).1.fFrame).2):=by unfold Caps.more1; rw [if_neg k3',if_pos (by simpa using k4)]
          refine bk pc s4 (i:=0) rfl rfl h6 ?_
          refine bM (wu pc st.2 m j _) (i:=1) rfl s4 fun r h5 hr s5=>?_
          subst hr
          refine ⟨⟨j + 1,rfl,hlt2,?_,?_⟩,by simp; omega⟩
          · rw [es,e1]
          · rw [es,e1]; exact s5
        · have e1:Caps.more1 o st.2 m j = ((Caps.derive st.2 (Caps.at_ o m j).1.fEnv (Caps.at_ o m j).1.fSlot m j (Caps.at_ o m j).1.fRights).1 == 0,(Caps.derive st.2 (Caps.at_ o m j).1.fEnv (Caps.at_ o m j).1.fSlot m j (Caps.at_ o m j).1.fRights).2):=by unfold Caps.more1; rw [if_neg k3',if_neg (by simpa using k4)]
          refine bk pc s4 (i:=0) rfl rfl h6 ?_
          refine bM (sK pc st.2 _ _ m j _) (i:=1) rfl s4 fun r h5 hr s5=>?_
          subst hr
          refine ⟨⟨j + 1,rfl,hlt2,?_,?_⟩,by simp; omega⟩
          · rw [es,e1]
          · rw [es,e1]; exact s5
    · have:j = 8:=by have:=of_decide_eq_false k2; simp at this; omega
      subst this
      rw [hw]
      exact ⟨⟨m + 1,rfl,hlt,rfl,s2⟩,by simp; omega⟩
  · have:m = o.length:=by rw [hl] at k; simp at k; omega
    subst this
    exact aX rfl s1
section
variable {α:Type}
def fx (xs:List α) (d:α) (n:Nat):List α:=xs.take n++List.replicate (xs.length - n) d
theorem mixd_len (xs:List α) (d:α) {n:Nat} (h:n ≤ xs.length):(fx xs d n).length = xs.length:=by simp [fx]; omega
theorem sy (xs:List α) (d:α):fx xs d 0 = List.replicate xs.length d:=by simp [fx]
theorem vO (xs:List α) (d:α):fx xs d xs.length = xs:=by simp [fx]
theorem mixd_get (xs:List α) (d:α) {n:Nat} (h:n < xs.length):(fx xs d n)[n]? = some d:=by
  unfold fx
  rw [List.getElem?_append_right (by simp; omega),List.getElem?_replicate,if_pos (by simp; omega)]
theorem qT (xs:List α) (d:α) {n:Nat} (h:n < xs.length):(fx xs d n).set n xs[n] = fx xs d (n + 1):=by
  unfold fx
  rw [List.set_append_right _ _ (by simp; omega)]
  have e1:n - (xs.take n).length = 0:=by simp; omega
  have e2:xs.length - n = (xs.length - (n + 1)) + 1:=by omega
  rw [e1,e2,List.replicate_succ,List.set_cons_zero]
  have e3:xs.take (n + 1) = xs.take n++[xs[n]]:=by simp
  rw [e3,List.append_assoc]; rfl
end
theorem put_ok {p:Pte} (h:PteFine p) (h0:p.fRights ≠ 0):(eV p).2 = true:=by
  rcases h with h | ⟨h1,h2,h3,h4,h5⟩
  · rw [h] at h0; exact absurd rfl h0
  · unfold eV
    have e1:am.eqb p ⟨0,0,0⟩ = false:=by
      unfold am.eqb
      have:(p.fRights == 0) = false:=by simpa using h0
      simp [this]
    have e2:(((((decide (p.fFrame < 0)) || (decide (p.fFrame ≥ 16))) || (decide (p.fSlot < 0))) || (decide (p.fSlot ≥ 8))) || (!(cg p.fRights))) = false:=by
      simp [h5]; omega
    rw [e1,e2]; rfl
theorem insert_mixd {row:List Pte} (h:pL row) {j:Nat} (hj:j < 8) (hr:row[j]?.map (·.fRights) ≠ some 0):Table.insert (fx row dh j) j (row.getD j dh) = (0,fx row dh (j + 1)):=by
  have hjl:j < row.length:=by rw [h.1]; exact hj
  have hg:row.getD j dh = row[j]:=by simp [hjl]
  rw [hg]
  have h0:row[j].fRights ≠ 0:=by
    intro e; apply hr; rw [List.getElem?_eq_getElem hjl]; simp [e]
  have hp:=put_ok (h.2 _ (List.getElem_mem hjl)) h0
  have hat:Table.at_ (fx row dh j) j = dh:=by
    unfold Table.at_
    rw [Int.toNat_natCast,List.getD_eq_getElem?_getD,mixd_get row dh hjl]; rfl
  have his:bt j = true:=by unfold bt; simp; omega
  unfold Table.insert
  rw [if_neg (by simp [hp,h0,his]),hat,if_neg (by simp),Int.toNat_natCast,qT row dh hjl]
theorem idx_rep (m:Nat):∀ (f:Nat) (i:Int),fu 0 (List.replicate f 1++List.replicate (m + 1) 0) i = i + f
  | 0,i=>by simp [fu,List.replicate_succ]
  | f + 1,i=>by
    rw [List.replicate_succ,List.cons_append,fu,if_neg (by decide),idx_rep m f (i + 1)]
    omega
theorem take_mixd {F f:Nat} (h:f < F):(Pool.take (fx (List.replicate F (1:Int)) 0 f)).2.2 = fx (List.replicate F (1:Int)) 0 (f + 1):=by
  have hl:f < (List.replicate F (1:Int)).length:=by simpa using h
  have e:fx (List.replicate F (1:Int)) 0 f = List.replicate f 1++List.replicate ((F - f - 1) + 1) 0:=by
    unfold fx
    rw [List.take_replicate,List.length_replicate,Nat.min_eq_left (by omega)]
    congr 2; omega
  have hi:fu 0 (fx (List.replicate F (1:Int)) 0 f) 0 = f:=by rw [e,idx_rep]; omega
  unfold Pool.take
  rw [hi,if_neg (by omega)]
  have:=qT (List.replicate F (1:Int)) 0 hl
  rw [List.getElem_replicate] at this
  simpa using this
abbrev cpL (zo z:PZ) (o k:PK):List As:=plainL zo o++plainL z k
abbrev Done (z:PZ) (k:PK) (r:Ptr):As:=aG [bn r k,bn (some (z.b,0)) k]
theorem copy7 {zo z:PZ} {o k:PK} {h:Hp} (ok:PK.Ok k) (ho:zo.tp.length = k.tabs.length) (hz:z.tp.length = k.tabs.length) (es:o.s = k.s) (em:o.m = k.m) (et:o.tabs = k.tabs) (ep:o.pool = k.pool) (oko:Caps.Ok o.caps) (sb:Caps.Sub o.caps k.caps)
    (s0:aG (cpL zo z o k) h):Lp (iN (Done z k) (z.b,0) (some (zo.b,0))) () h:=by
  obtain ⟨os,om,ot,op,oc⟩:=o
  simp only at es em et ep oko sb
  subst es; subst em; subst et; subst ep
  have hs:=fQ.1 ok.sz
  have hts:=(cj (j:=2) s0 rfl).1
  have hcl:=ok.cl
  have htl:=ok.tl
  refine Lp.ghost (γ:=Caps.T) (fun c _ h=>Caps.Ok c∧Caps.Sub c k.caps∧aG (cpL zo z ⟨k.s,k.m,k.tabs,k.pool,c⟩ k) h) (fun c=>Caps.miss k.caps c) ⟨oko,sb,s0⟩ ?_
  rintro c s h ⟨okc,sbc,s1⟩ R hR
  have w:=Caps.way_all (n:=k.s.fFrames) (by omega) ok.tree ok.fine okc sbc k.caps.length (Nat.le_refl _)
  unfold iN
  refine cT [0,4,4,8] (sp_plain_more zo.b z.b (qf k.s zo) (qf k.s z) zo.ts zo.pc z.pc c k.caps rfl rfl rfl (by omega) (by omega)) s1 rfl fun r h2 s2=>?_
  obtain ⟨hr,s3⟩:=bp.1 s2
  have s4:aG (cpL zo z ⟨k.s,k.m,k.tabs,k.pool,(Caps.moreE k.caps k.caps.length (false,c)).2⟩ k) h2:=bd [0,3,3,3,3,0,0,1,1,1,1,0] s3 rfl
  refine ba (fun d=>?_) (fun d=>?_)
  · exact hR _ () h2 ⟨w.ok,w.sub,s4⟩ (w.lt (by rw [← hr,d]))
  · have hf:(Caps.moreE k.caps k.caps.length (false,c)).1 = false:=by rw [← hr,d]
    have hsame:=w.same hf
    rw [hsame] at s4
    have hc:c = k.caps:=Caps.all_there (n:=k.s.fFrames) (by omega) ok.tree ok.fine okc sbc fun e s he hs=>w.no hf e s ⟨he,hs⟩
    subst hc
    have s5:=da (z:=zo) (k:=k) (l:=plainL z k) ho ok s4
    exact bd [1] (da (z:=z) (k:=k) hz ok (bd [1,1,1,1,1,1] s5 rfl)) rfl
theorem copy5 {zo z:PZ} {o k:PK} {h:Hp} {x92:Sl} (ok:PK.Ok k) (ho:zo.tp.length = k.tabs.length) (hz:z.tp.length = k.tabs.length) (hx:x92.len = k.tabs.length) (es:o.s = k.s) (em:o.m = k.m) (et:o.tabs = List.replicate k.tabs.length (List.replicate 8 dh)) (ep:o.pool = k.pool) (oko:Caps.Ok o.caps) (sb:Caps.Sub o.caps k.caps)
    (s0:aG (cpL zo z o k) h):Lp (iO (Done z k) (z.b,0) (some (zo.b,0)) x92) 0 h:=by
  obtain ⟨os,om,ot,op,oc⟩:=o
  simp only at es em et ep oko sb
  subst es; subst em; subst et; subst ep
  have hs:=fQ.1 ok.sz
  have htl:=ok.tl
  have hzs:=(cj (j:=8) s0 rfl).1
  have hos:=(cj (j:=2) s0 rfl).1
  have e0:List.replicate k.tabs.length (List.replicate 8 dh) = fx k.tabs (List.replicate 8 dh) 0:=(sy _ _).symm
  rw [e0] at s0
  refine Lp.intro (fun (i:Int) h=>∃ e:Nat,i = e∧e ≤ k.tabs.length∧aG (cpL zo z ⟨k.s,k.m,fx k.tabs (List.replicate 8 dh) e,k.pool,oc⟩ k) h) (fun (i:Int) _=>k.tabs.length - i.toNat) ⟨0,rfl,Nat.zero_le _,s0⟩ ?_
  rintro i h ⟨e,rfl,he,s1⟩
  unfold iO
  refine ba (fun d=>?_) (fun d=>?_)
  · have hlt:e < k.tabs.length:=by rw [hx] at d; simpa using d
    have hw:IntKind.i64.wrap ((e:Int) + 1) = ((e + 1:Nat):Int):=by rw [bR (by omega) (by omega)]; rfl
    have htab:pL k.tabs[e]:=ok.tr _ (List.getElem_mem hlt)
    have hml:=mixd_len k.tabs (List.replicate 8 dh) he
    have heo:e < zo.tp.length:=by omega
    have hez:e < z.tp.length:=by omega
    have hmg:=mixd_get k.tabs (List.replicate 8 dh) hlt
    have r0:List.replicate 8 dh = fx k.tabs[e] dh 0:=by rw [sy,htab.1]
    refine Lp.intro (fun (i:Int) h=>∃ j:Nat,i = j∧j ≤ 8∧aG (cpL zo z ⟨k.s,k.m,(fx k.tabs (List.replicate 8 dh) e).set e (fx k.tabs[e] dh j),k.pool,oc⟩ k) h) (fun (i:Int) _=>8 - i.toNat) ⟨0,rfl,Nat.zero_le _,?_⟩ ?_
    · rw [← r0,iM hmg]; exact s1
    rintro i h ⟨j,rfl,hj,s2⟩
    unfold lr
    refine ba (fun d2=>?_) (fun d2=>?_)
    · have hlt2:j < 8:=by have:=of_decide_eq_true d2; omega
      have hjl:j < k.tabs[e].length:=by rw [htab.1]; exact hlt2
      have hw2:IntKind.i64.wrap ((j:Int) + 1) = ((j + 1:Nat):Int):=by rw [bR (by omega) (by omega)]; rfl
      have his:bt j = true:=by unfold bt; simp; omega
      have hat:Table.at_ k.tabs[e] j = k.tabs[e][j]:=by simp [Table.at_,hjl]
      refine bk z.ts s2 (i:=6) rfl rfl rfl ?_
      refine dC s2 (j:=8) rfl (by omega) (by omega) fun q hq=>?_
      refine eE (j:=8) (i:=e) (k:=0) z.tp[e] hG s2 rfl hq (by simp) (aH hez) (by simp) ?_
      have s3:=ju (aH hez) (aH hlt) (bd [9] s2 rfl)
      refine bM (nJ z.tp[e] k.tabs[e] j) (i:=0) rfl s3 fun r h4 hr s4=>?_
      subst hr
      have s5:aG (cpL zo z ⟨k.s,k.m,(fx k.tabs (List.replicate 8 dh) e).set e (fx k.tabs[e] dh j),k.pool,oc⟩ k) h4:=bd [1,1,1,1,1,1,1,1,1,0] (wh (aH hez) (aH hlt) hz s4) rfl
      refine ba (fun d3=>?_) (fun d3=>?_)
      · have hne:k.tabs[e][j].fRights ≠ 0:=by
          unfold Table.get at d3
          split at d3
          · rename_i hh; rw [hat] at hh; exact hh.2
          · cases d3
        have eg:(Table.get k.tabs[e] j).1 = k.tabs[e].getD j dh:=by
          unfold Table.get; rw [hat,if_pos ⟨his,hne⟩]; simp [hjl]
        have ei:=insert_mixd htab hlt2 (by rw [List.getElem?_eq_getElem hjl]; simpa using hne)
        rw [eg]
        refine cE (bk zo.ts s5 (i:=0) rfl rfl rfl ?_)
        refine dC s5 (j:=2) rfl (by omega) (by omega) fun q2 hq2=>?_
        refine eE (j:=2) (i:=e) (k:=0) zo.tp[e] hG s5 rfl hq2 (by simp) (aH heo) (by simp) ?_
        have dU:((fx k.tabs (List.replicate 8 dh) e).set e (fx k.tabs[e] dh j))[e]? = some (fx k.tabs[e] dh j):=by rw [List.getElem?_set,if_pos rfl,if_pos (by rw [hml]; exact hlt)]
        have s6:=ju (aH heo) dU (bd [3] s5 rfl)
        refine bM (kw zo.tp[e] _ j _) (i:=0) rfl s6 fun r h7 hr s7=>?_
        rw [ei] at s7
        have s8:=xy (aH heo) (by rw [List.length_set,hml]; exact hlt) (by rw [List.length_set,hml]; exact ho) s7
        rw [List.set_set] at s8
        rw [hw2]
        exact ⟨⟨j + 1,rfl,hlt2,bd [1,1,1] s8 rfl⟩,by simp; omega⟩
      · have hze:k.tabs[e][j] = dh:=by
          rcases htab.2 _ (List.getElem_mem hjl) with h | h
          · exact h
          · have:=uz.1 h.2.2.2.2
            unfold Table.get at d3
            rw [hat,if_pos ⟨his,by omega⟩] at d3; cases d3
        have hsame:fx k.tabs[e] dh j = fx k.tabs[e] dh (j + 1):=by
          rw [← qT _ _ hjl,hze,iM (mixd_get _ _ hjl)]
        rw [hsame] at s5
        rw [hw2]
        exact ⟨⟨j + 1,rfl,hlt2,s5⟩,by simp; omega⟩
    · have:j = 8:=by have:=of_decide_eq_false d2; omega
      subst this
      have er:fx k.tabs[e] dh 8 = k.tabs[e]:=by have:=vO k.tabs[e] dh; rw [htab.1] at this; exact this
      rw [er,qT _ _ hlt] at s2
      rw [hw]
      exact ⟨⟨e + 1,rfl,hlt,s2⟩,by simp; omega⟩
  · have:e = k.tabs.length:=by rw [hx] at d; simp at d; omega
    subst this
    rw [vO] at s1
    exact copy7 (o:=⟨k.s,k.m,k.tabs,k.pool,oc⟩) ok ho hz rfl rfl rfl rfl oko sb s1
theorem refs_nat {p:List Int} {f:Nat} (h:f < p.length):Pool.refs p f = p[f]:=by
  unfold Pool.refs; rw [if_neg (by omega)]; simp [h]
theorem copy3 {zo z:PZ} {o k:PK} {h:Hp} (ok:PK.Ok k) (ho:zo.tp.length = k.tabs.length) (hz:z.tp.length = k.tabs.length) (es:o.s = k.s) (em:o.m = k.m) (et:o.tabs = List.replicate k.tabs.length (List.replicate 8 dh)) (ep:o.pool = List.replicate k.pool.length 1) (oko:Caps.Ok o.caps) (sb:Caps.Sub o.caps k.caps)
    (s0:aG (cpL zo z o k) h):Lp (iP (Done z k) (z.b,0) (some (zo.b,0)) k.s.fFrames) 0 h:=by
  obtain ⟨os,om,ot,op,oc⟩:=o
  simp only at es em et ep oko sb
  subst es; subst em; subst et; subst ep
  have hs:=fQ.1 ok.sz
  have hpl:=ok.pl
  rw [← sy k.pool 1] at s0
  refine Lp.intro (fun (i:Int) h=>∃ f:Nat,i = f∧f ≤ k.pool.length∧aG (cpL zo z ⟨k.s,k.m,List.replicate k.tabs.length (List.replicate 8 dh),fx k.pool 1 f,oc⟩ k) h) (fun (i:Int) _=>k.pool.length - i.toNat) ⟨0,rfl,Nat.zero_le _,s0⟩ ?_
  rintro i h ⟨f,rfl,hf,s1⟩
  unfold iP
  refine ba (fun d=>?_) (fun d=>?_)
  · have hlt:f < k.pool.length:=by have:=of_decide_eq_true d; omega
    have hw:IntKind.i64.wrap ((f:Int) + 1) = ((f + 1:Nat):Int):=by rw [bR (by omega) (by omega)]; rfl
    have hml:=mixd_len k.pool 1 hf
    have hmg:=mixd_get k.pool 1 hlt
    have hr7:=ok.pr _ (List.getElem_mem hlt)
    refine bk z.pp s1 (i:=6) rfl rfl rfl ?_
    refine bM (ws z.pp k.pool f) (i:=10) rfl s1 fun r h2 hr s2=>?_
    rw [refs_nat hlt] at hr
    subst hr
    have hw0:IntKind.i64.wrap (k.pool[f] - 1) = k.pool[f] - 1:=bR (by omega) (by omega)
    refine Lp.intro (fun (i:Int) h=>∃ j:Nat,i = j∧(j:Int) ≤ max 0 (k.pool[f] - 1)∧aG (cpL zo z ⟨k.s,k.m,List.replicate k.tabs.length (List.replicate 8 dh),(fx k.pool 1 f).set f (1 + (j:Int)),oc⟩ k) h) (fun (i:Int) _=>(8 - i).toNat) ⟨0,rfl,by omega,?_⟩ ?_
    · have:(fx k.pool 1 f).set f (1 + ((0:Nat):Int)) = fx k.pool 1 f:=by
        rw [show (1:Int) + ((0:Nat):Int) = 1 from rfl,iM hmg]
      rw [this]; exact s2
    rintro i h ⟨j,rfl,hj,s3⟩
    have dU:f < ((fx k.pool 1 f).set f (1 + (j:Int))).length:=by rw [List.length_set,hml]; exact hlt
    have hgs:((fx k.pool 1 f).set f (1 + (j:Int)))[f] = 1 + (j:Int):=by simp
    unfold lu
    rw [hw0]
    refine ba (fun d2=>?_) (fun d2=>?_)
    · have hlt2:(j:Int) < k.pool[f] - 1:=of_decide_eq_true d2
      have hw2:IntKind.i64.wrap ((j:Int) + 1) = ((j + 1:Nat):Int):=by rw [bR (by omega) (by omega)]; rfl
      refine cE (bk zo.pp s3 (i:=0) rfl rfl rfl ?_)
      refine bM (sp_pool_Hold zo.pp _ f) (i:=4) rfl s3 fun r h4 hr s4=>?_
      have eh:(Pool.hold ((fx k.pool 1 f).set f (1 + (j:Int))) f).2 = (fx k.pool 1 f).set f (1 + ((j + 1:Nat):Int)):=by
        unfold Pool.hold
        rw [refs_nat dU,hgs,if_neg (by omega),Int.toNat_natCast,List.set_set,bR (by omega) (by omega)]
        congr 1 <;> omega
      rw [eh] at s4
      rw [hw2]
      exact ⟨⟨j + 1,rfl,by omega,s4⟩,by omega⟩
    · have hge:¬ (j:Int) < k.pool[f] - 1:=of_decide_eq_false d2
      rw [hw]
      refine ba (fun d3=>?_) (fun d3=>?_)
      · have h0:k.pool[f] = 0:=by simpa using d3
        have hj0:j = 0:=by omega
        subst hj0
        refine cE (bk zo.pp s3 (i:=0) rfl rfl rfl ?_)
        refine bM (sp_pool_Let zo.pp _ f) (i:=4) rfl s3 fun r h4 hr s4=>?_
        have eh:(Pool.lets ((fx k.pool 1 f).set f (1 + ((0:Nat):Int))) f).2.2 = fx k.pool 1 (f + 1):=by
          unfold Pool.lets
          rw [refs_nat dU,hgs,if_neg (by omega),Int.toNat_natCast,List.set_set,bR (by omega) (by omega),← qT _ _ hlt,h0]
          rfl
        rw [eh] at s4
        exact ⟨⟨f + 1,rfl,hlt,s4⟩,by simp; omega⟩
      · have h0:k.pool[f] ≠ 0:=by simpa using d3
        have ej:1 + (j:Int) = k.pool[f]:=by omega
        rw [ej,qT _ _ hlt] at s3
        exact ⟨⟨f + 1,rfl,hlt,s3⟩,by simp; omega⟩
  · have:f = k.pool.length:=by have:=of_decide_eq_false d; omega
    subst this
    rw [vO] at s1
    have hzs:=(cj (j:=8) s1 rfl).1
    refine bk z.ts s1 (i:=6) rfl rfl rfl ?_
    exact copy5 (o:=⟨k.s,k.m,List.replicate k.tabs.length (List.replicate 8 dh),k.pool,oc⟩) ok ho hz (by omega) rfl rfl rfl rfl oko sb s1
theorem frame_nat {m:List (List Int)} {f:Nat} (h:f < m.length):Mem.frame m f = m[f]:=by
  have hh:Mem.has m f 0:=⟨by omega,by omega,by omega,by omega⟩
  unfold Mem.frame
  rw [if_pos hh]
  simp [h]
theorem copy1 {zo z:PZ} {o k:PK} {h:Hp} (ok:PK.Ok k) (ho:zo.tp.length = k.tabs.length) (hz:z.tp.length = k.tabs.length) (es:o.s = k.s) (em:o.m = List.replicate k.m.length (List.replicate 16 0)) (et:o.tabs = List.replicate k.tabs.length (List.replicate 8 dh)) (ep:o.pool = List.replicate k.pool.length 0) (oko:Caps.Ok o.caps) (sb:Caps.Sub o.caps k.caps)
    (s0:aG (cpL zo z o k) h):Lp (iQ (Done z k) (z.b,0) (some (zo.b,0)) k.s.fFrames) 0 h:=by
  obtain ⟨os,om,ot,op,oc⟩:=o
  simp only at es em et ep oko sb
  subst es; subst em; subst et; subst ep
  have hs:=fQ.1 ok.sz
  have hpl:=ok.pl
  have hml:=ok.ml
  have hpm:k.pool.length = k.m.length:=by omega
  rw [← sy k.m] at s0
  have ep0:List.replicate k.pool.length (0:Int) = fx (List.replicate k.pool.length (1:Int)) 0 0:=by rw [sy]; simp
  rw [ep0] at s0
  refine Lp.intro (fun (i:Int) h=>∃ f:Nat,i = f∧f ≤ k.m.length∧aG (cpL zo z ⟨k.s,fx k.m (List.replicate 16 0) f,List.replicate k.tabs.length (List.replicate 8 dh),fx (List.replicate k.pool.length (1:Int)) 0 f,oc⟩ k) h) (fun (i:Int) _=>k.m.length - i.toNat) ⟨0,rfl,Nat.zero_le _,s0⟩ ?_
  rintro i h ⟨f,rfl,hf,s1⟩
  unfold iQ
  refine ba (fun d=>?_) (fun d=>?_)
  · have hlt:f < k.m.length:=by have:=of_decide_eq_true d; omega
    have hw:IntKind.i64.wrap ((f:Int) + 1) = ((f + 1:Nat):Int):=by rw [bR (by omega) (by omega)]; rfl
    have hrow:=ok.mr _ (List.getElem_mem hlt)
    have hmx:=mixd_len k.m (List.replicate 16 (0:Int)) hf
    have hmg:=mixd_get k.m (List.replicate 16 (0:Int)) hlt
    refine bk z.pm s1 (i:=6) rfl rfl rfl ?_
    refine uY (sp_mem_Frame z.pm k.m f) (i:=7) rfl s1 fun r33 h2 s2=>?_
    rw [frame_nat hlt] at s2
    have hrl:=(cj (j:=0) s2 rfl).1
    have r0:List.replicate 16 (0:Int) = fx k.m[f] 0 0:=by rw [sy,hrow]
    refine Lp.intro (fun (i:Int) h=>∃ j:Nat,i = j∧j ≤ 16∧aG (vU r33 k.m[f]::cpL zo z ⟨k.s,(fx k.m (List.replicate 16 0) f).set f (fx k.m[f] 0 j),List.replicate k.tabs.length (List.replicate 8 dh),fx (List.replicate k.pool.length (1:Int)) 0 f,oc⟩ k) h) (fun (i:Int) _=>16 - i.toNat) ⟨0,rfl,Nat.zero_le _,?_⟩ ?_
    · rw [← r0,iM hmg]; exact s2
    rintro i h ⟨j,rfl,hj,s3⟩
    unfold lv
    refine ba (fun d2=>?_) (fun d2=>?_)
    · have hlt2:j < 16:=by rw [hrl,hrow] at d2; have:=of_decide_eq_true d2; omega
      have hjl:j < k.m[f].length:=by omega
      have hw2:IntKind.i64.wrap ((j:Int) + 1) = ((j + 1:Nat):Int):=by rw [bR (by omega) (by omega)]; rfl
      refine dC s3 (j:=0) rfl (by omega) (by omega) fun q hq=>?_
      refine eE (j:=0) (i:=j) (k:=0) k.m[f][j] (dl _) s3 rfl hq (by simp) (aH hjl) (by simp) ?_
      refine cE (bk zo.pm s3 (i:=1) rfl rfl rfl ?_)
      refine bM (lR zo.pm _ f j k.m[f][j]) (i:=2) rfl s3 fun r h4 hr s4=>?_
      have es:(Mem.store ((fx k.m (List.replicate 16 0) f).set f (fx k.m[f] 0 j)) f j k.m[f][j]).2 = (fx k.m (List.replicate 16 0) f).set f (fx k.m[f] 0 (j + 1)):=by
        have hh:Mem.has ((fx k.m (List.replicate 16 0) f).set f (fx k.m[f] 0 j)) f j:=⟨by omega,by simp only [List.length_set,hmx]; omega,by omega,by omega⟩
        unfold Mem.store
        rw [if_pos hh]
        unfold Mem.put
        simp only [Int.toNat_natCast]
        have hg:((fx k.m (List.replicate 16 0) f).set f (fx k.m[f] 0 j)).getD f [] = fx k.m[f] 0 j:=by rw [List.getD_eq_getElem?_getD,List.getElem?_set,if_pos rfl,if_pos (by rw [hmx]; exact hlt)]; rfl
        rw [hg,List.set_set,qT _ _ hjl]
      rw [es] at s4
      rw [hw2]
      exact ⟨⟨j + 1,rfl,hlt2,s4⟩,by simp; omega⟩
    · have:j = 16:=by rw [hrl,hrow] at d2; have:=of_decide_eq_false d2; omega
      subst this
      have er:fx k.m[f] 0 16 = k.m[f]:=by have:=vO k.m[f] (0:Int); rw [hrow] at this; exact this
      rw [er,qT _ _ hlt] at s3
      refine cE (bk zo.pp s3 (i:=1) rfl rfl rfl ?_)
      refine bM (wq zo.pp _) (i:=5) rfl s3 fun r h4 hr s4=>?_
      rw [take_mixd (by omega)] at s4
      rw [hw]
      exact ⟨⟨f + 1,rfl,hlt,cc (l:=[vU r33 k.m[f]]) s4⟩,by simp; omega⟩
  · have:f = k.m.length:=by have:=of_decide_eq_false d; omega
    subst this
    have ea:fx (List.replicate k.pool.length (1:Int)) 0 k.m.length = List.replicate k.pool.length 1:=by
      have:=vO (List.replicate k.pool.length (1:Int)) 0
      rw [List.length_replicate,hpm] at this
      rw [hpm]; exact this
    rw [vO,ea] at s1
    refine bk k.s.fFrames s1 (i:=6) rfl rfl rfl ?_
    exact copy3 (o:=⟨k.s,k.m,List.replicate k.tabs.length (List.replicate 8 dh),List.replicate k.pool.length 1,oc⟩) ok ho hz rfl rfl rfl rfl oko sb s1
theorem three {s:eY} {z:PZ}:∀ (i:Nat) (v:Value),(aB.C s)[i]? = some v→(qf s z)[0 + 0 + i]? = some v:=by
  intro j v hv
  have:j < 3:=(List.getElem?_eq_some_iff.1 hv).1
  match j,this with
  | 0,_=>exact hv
  | 1,_=>exact hv
  | 2,_=>exact hv
theorem uJ (x:Ptr) (k:PK):Sp Tryz.prog gL [pv x] dM [bn x k] (fun r=>aG [bn r k,bn x k]):=by
  intro h s0
  obtain ⟨z,rfl,h1,ok,hl,st⟩:=fO s0
  have hs:=fQ.1 ok.sz
  refine sim_plain_Kernel_Copy _ ?_
  unfold qN
  refine di rfl (cE ?_)
  refine ld_s (i:=0) k.s st rfl (fun i v hv=>by simpa using three i v hv) ?_
  refine lL (rT k.s ok.sz) st fun r h2 s2=>?_
  obtain ⟨zo,rfl,ho,okn,hlo,s3⟩:=fO s2
  refine bk k.s.fFrames s3 (i:=6) rfl rfl rfl ?_
  have e1:k.s.fFrames.toNat = k.m.length:=by have:=ok.ml; omega
  have e2:k.s.fEnvs.toNat = k.tabs.length:=by have:=ok.tl; omega
  have e3:k.s.fFrames.toNat = k.pool.length:=by have:=ok.pl; omega
  have e4:k.s.fEnvs.toNat = k.caps.length:=by have:=ok.cl; omega
  refine copy1 (o:=PK.new k.s) ok ?_ h1 rfl (by simp only [PK.new,e1]) (by simp only [PK.new,e2]) (by simp only [PK.new,e3]) okn.tree ⟨by simp only [PK.new,List.length_replicate,e4],fun e s hh=>.inl ?_⟩ s3
  · rw [ho]; simp only [PK.new,List.length_replicate,e2]
  · obtain ⟨a,b,rfl,rfl,ha,hb⟩:=Caps.has_nat hh
    simp only [Caps.get,PK.new,e4,Int.toNat_natCast,List.getD_eq_getElem?_getD,List.getElem?_replicate,if_pos ha,Option.getD_some,if_pos hb]
end Go.Proofs.YtemoifebbhoinaaGreatDoor
namespace Go.Proofs.YtemoifebbhoinaaGreatDoor
open Go Mb
set_option linter.unusedVariables false
def oE (K:Bool→Hp→Prop):Hp→Prop:=cl Tryz.prog nO [(.agg (aB.C (⟨1,2,2⟩:aB)).toArray)] dM fun r23=>cl Tryz.prog xe [(.int .i64 2)] sq fun r24=>cl Tryz.prog nR [(.int .i64 3)] iI fun r25=>cl Tryz.prog iE [] gJ fun r26=>cl Tryz.prog lw [] iv fun r27=>cl Tryz.prog vM [(.int .i64 2)] tH fun r28=>br (((((r23.isNone || r24.isNone) || r25.isNone) || r26.isNone) || r27.isNone) || r28.isNone) ( K false) ( cl Tryz.prog dz [(pv r23),(.int .i64 0),(.agg (ah.C (⟨1,1,0,0,0⟩:ah)).toArray)] aZ fun r54=>cl Tryz.prog dz [(pv r23),(.int .i64 0),(.agg (ah.C (⟨6,2,1,3,0⟩:ah)).toArray)] aZ fun r60=>cl Tryz.prog dz [(pv r23),(.int .i64 0),(.agg (ah.C (⟨21,2,5,77,0⟩:ah)).toArray)] aZ fun r65=>cl Tryz.prog dz [(pv r23),(.int .i64 0),(.agg (ah.C (⟨20,2,5,0,0⟩:ah)).toArray)] aZ fun r69=>cl Tryz.prog jE [(pv r24),(.int .i64 0),(.int .i64 1),(.int .i64 1)] bh fun r73=>cl Tryz.prog ip [(pv r24),(.int .i64 0),(.int .i64 1),(.int .i64 1),(.int .i64 3),(.int .i64 1)] bh fun r75=>cl Tryz.prog iU [(pv r25),(.int .i64 0)] bK fun r78=>cl Tryz.prog kj [(pv r25),(.int .i64 1),(.int .u64 r78.1)] aC fun r83=>cl Tryz.prog dY [(pv r27),(.int .i64 2),(.agg (am.C (⟨1,1,1⟩:am)).toArray)] bh fun r86=>cl Tryz.prog n_user_Do [(pv r26),(pv r27),(pv r28),(.int .i64 0),(.agg (ah.C (⟨20,2,3,0,0⟩:ah)).toArray)] eJ fun r92=>cl Tryz.prog nr [(pv r23),(.int .i64 0),(.agg (ah.C (⟨7,5,0,0,0⟩:ah)).toArray)] iz fun r97=>cl Tryz.prog lB [] aC fun r98=>br ((((((r98 && r54.2) && (r54.1.fErr == 0)) && (r60.1.fErr == 0)) && (r69.1.fVal == 77)) && (r73 == 0)) && (r75 == 0)) ( cl Tryz.prog lh [(pv r24),(.int .i64 0),(.int .i64 1)] cX fun r127=>br (((((r127.len:Int) == 1) && (r78.1 == 1)) && r78.2) && r83) ( cl Tryz.prog js [(pv r25),(.int .u64 1)] aC fun r143=>br (!r143) ( cl Tryz.prog iT [(pv r25),(.int .u64 1)] cu fun r148=>br ((((((r148.len:Int) == 1) && (r86 == 0)) && (r92.1.fErr == 0)) && (r92.2.fFrame == 1)) && (mQ 3 3 4)) ( cl Tryz.prog kE [(.int .i64 3)] iz fun r171=>cl Tryz.prog nQ [r97,r171] aC fun r172=>br r172 ( cl Tryz.prog jr [(pv r23)] cu fun r176=>K ((r176.len:Int) == 1)) ( K false)) ( K false)) ( K false)) ( K false)) ( K false))
theorem vm {K:Bool→Hp→Prop} {h:Hp} (H:oE K h):Ct Tryz.prog kO #[] h fun v h'=>∃ r,v = aC r∧K r h':=aw [] Tryz.func100 c c c fun _=>M<|O c<|M<|p (aY c<|tE 1 2 2)<|aa<|Z H en_56 fun r23 _ H1=>aa<|Z H1 en_106 fun r24 _ H2=>aa<|Z H2 en_58 fun r25 _ H3=>p (au c)<|p (au c)<|O c<|M<|aa<|Z H3 en_59 fun r26 _ H4=>aa<|Z H4 en_107 fun r27 _ H5=>aa<|Z H5 en_104 fun r28 _ H6=>p (au c)<|p (au c)<|O c<|al<|M<|J c<|p (cn Tryz.underlying103 c)<|J c<|V c c (aJ _) (fun g7=>wv<|ai c)<|V c c (aJ _) (fun g8=>wv<|cn Tryz.underlying155<|aD c g8)<|p (dm c c)<|J c<|V c c (aJ _) (fun g9=>wv<|ai c)<|V c c (aJ _) (fun g10=>wv<|cn Tryz.underlying106<|aD c g10)<|p (dm c c)<|J c<|V c c (aJ _) (fun g11=>wv<|ai c)<|V c c (aJ _) (fun g12=>wv<|cn Tryz.underlying114<|aD c g12)<|p (dm c c)<|J c<|V c c (aJ _) (fun g13=>wv<|ai c)<|V c c (aJ _) (fun g14=>wv<|cn Tryz.underlying161<|aD c g14)<|p (dm c c)<|J c<|V c c (aJ _) (fun g15=>wv<|ai c)<|V c c (aJ _) (fun g16=>wv<|cn Tryz.underlying152<|aD c g16)<|p (dm c c)<|ad<|av c H6 (fun k17 H18=>M<|O c<|aj<|Y ⟨false,c,H18⟩) fun k17 H18=>ao<|M<|J c<|p (aY c<|je 1 1)<|aa<|Z H18 en_72 fun r54 _ H19=>J c<|p (ak c c)<|p (ak c c)<|aa<|aI (l:=ab.C (⟨0,0⟩:ab)) cO c c fun b7=>aa<|aO (k:=0) (vs:=ab.C r54.1) bI c c c c c c c<|O c<|M<|J c<|p (aY c<|fo 6 2 1 3)<|aa<|Z H19 en_72 fun r60 _ H20=>J c<|p (ak c c)<|p (ak c c)<|aa<|aI (l:=ab.C (⟨0,0⟩:ab)) cO c c fun b9=>aa<|aO (k:=0) (vs:=ab.C r60.1) bI c c c c c c c<|O c<|M<|J c<|p (aY c<|fo 21 2 5 77)<|aa<|Z H20 en_72 fun r65 _ H21=>ad<|M<|J c<|p (aY c<|lO 20 2 5)<|aa<|Z H21 en_72 fun r69 _ H22=>J c<|p (ak c c)<|p (ak c c)<|aa<|aI (l:=ab.C (⟨0,0⟩:ab)) cO c c fun b11=>aa<|aO (k:=0) (vs:=ab.C r69.1) bI c c c c c c c<|O c<|M<|J c<|aa<|Z H22 en_142 fun r73 _ H23=>J c<|aa<|Z H23 en_143 fun r75 _ H24=>p (au c)<|O c<|M<|J c<|aa<|Z H24 en_69 fun r78 _ H25=>J c<|p (ak c c)<|p (ak c c)<|p (au c)<|O c<|M<|J c<|J c<|aa<|Z H25 en_98 fun r83 _ H26=>O c<|M<|J c<|p (aY c<|pb 1 1 1)<|aa<|Z H26 en_112 fun r86 _ H27=>O c<|M<|J c<|J c<|J c<|p (aY c<|lO 20 2 3)<|aa<|Z H27 en_144 fun r92 _ H28=>J c<|p (ak c c)<|p (ak c c)<|aa<|aI (l:=ab.C (⟨0,0⟩:ab)) cO c c fun b19=>aa<|aI (l:=an.C (⟨0,0,0,0⟩:an)) kV c c fun b20=>aa<|aO (k:=1) (vs:=ab.C r92.1) bI c c c c c c c<|aa<|aO (k:=0) (vs:=an.C r92.2) fL c c c c c c c<|ad<|M<|J c<|p (aY c<|je 7 5)<|aa<|Z H28 en_145 fun r97 _ H29=>O c<|M<|aa<|Z H29 en_146 fun r98 _ H30=>J c<|V c c (az _) (fun g31=>wv<|ai c)<|p (bS c c)<|J c<|V c c (az _) (fun g32=>wv<|ae gQ c)<|V c c (az _) (fun g33=>cv<|bf (k:=4) ll (aD c g33) c c)<|V c c (az _) (fun g34=>wv<|bO (aD c g34) c)<|p (bS c c)<|J c<|V c c (az _) (fun g35=>wv<|ae gQ c)<|V c c (az _) (fun g36=>cv<|bf (k:=3) ll (aD c g36) c c)<|V c c (az _) (fun g37=>wv<|bO (aD c g37) c)<|p (bS c c)<|J c<|V c c (az _) (fun g38=>wv<|ae fld_30_1 c)<|V c c (az _) (fun g39=>cv<|bf (k:=2) cz (aD c g39) c c)<|V c c (az _) (fun g40=>wv<|bO (aD c g40) c)<|p (bS c c)<|J c<|V c c (az _) (fun g41=>wv<|ai c)<|V c c (az _) (fun g42=>wv<|bO (aD c g42) c)<|p (bS c c)<|J c<|V c c (az _) (fun g43=>wv<|ai c)<|V c c (az _) (fun g44=>wv<|bO (aD c g44) c)<|p (bS c c)<|J c<|V c c (az _) (fun g45=>wv<|ai c)<|bU H30 (fun k47 H48=>F (D k47)<|gw H48 en_147 (aT (aD c k47)<|aT c<|aT c bQ) c fun r127 _ H49=>F (D k47)<|R (dA c Tryz.underlying201 c)<|F (D k47)<|R (bO c c)<|p (aU c k47 c)<|J c<|V c c (az _) (fun g50=>wv<|ai c)<|V c c (az _) (fun g51=>wv<|bO (aD c g51) c)<|p (bS c c)<|J c<|V c c (az _) (fun g52=>wv<|ai c)<|p (bS c c)<|J c<|V c c (az _) (fun g53=>wv<|ai c)<|p (bS c c)<|J c<|V c c (az _) (fun g54=>wv<|ai c)<|bU H49 (fun k56 H57=>F (D k56)<|gw H57 en_71 (aT (aD c k56)<|aT c bQ) c fun r143 _ H58=>F (D k56)<|R (cq c)<|p (aU c k56 c)<|J c<|V c c (az _) (fun g59=>wv<|ai c)<|bU H58 (fun k61 H62=>F (D k61)<|gw H62 en_121 (aT (aD c k61)<|aT c bQ) c fun r148 _ H63=>F (D k61)<|R (dA c Tryz.underlying39 c)<|F (D k61)<|R (bO c c)<|p (aU c k61 c)<|J c<|V c c (az _) (fun g64=>wv<|ai c)<|V c c (az _) (fun g65=>wv<|bO (aD c g65) c)<|p (bS c c)<|J c<|V c c (az _) (fun g66=>wv<|ae gQ c)<|V c c (az _) (fun g67=>cv<|bf (k:=1) ll (aD c g67) c c)<|V c c (az _) (fun g68=>wv<|bO (aD c g68) c)<|p (bS c c)<|J c<|V c c (az _) (fun g69=>wv<|ae lJ c)<|V c c (az _) (fun g70=>cv<|bf (k:=0) bb (aD c g70) c c)<|V c c (az _) (fun g71=>wv<|bO (aD c g71) c)<|p (bS c c)<|J c<|db (vs:=[(.int .i64 3),(.int .u64 3),(.int .u64 4)]) c c c (az _) (fun g72=>bu<|uX 3 3 4 _) en_148 (fun g72=>c) c<|p (bS c c)<|J c<|V c c (az _) (fun g73=>wv<|ai c)<|bU H63 (fun k75 H76=>F (D k75)<|Z H76 xw fun r171 _ H77=>F (D k75)<|gw H77 en_149 (aT (aD c k75)<|aT c bQ) c fun r172 _ H78=>p (aU c k75 c)<|J c<|V c c (az _) (fun g79=>wv<|ai c)<|bU H78 (fun k81 H82=>F (D k81)<|gw H82 en_54 (aT (aD c k81) bQ) c fun r176 _ H83=>F (D k81)<|R (dA c Tryz.underlying39 c)<|F (D k81)<|R (bO c c)<|p (aU c k81 c)<|O c<|aj<|Y ⟨((r176.len:Int) == 1),c,H83⟩) fun k81 H82=>W (aR k81)<|W (aR k81)<|W (aR k81)<|p (aq c k81 c)<|O c<|aj<|Y ⟨false,c,H82⟩) fun k75 H76=>W (aR k75)<|W (aR k75)<|p (aq c k75 c)<|J c<|W c<|W c<|W c<|W c<|p (aq c c c)<|O c<|aj<|Y ⟨false,c,H76⟩) fun k61 H62=>W (aR k61)<|W (aR k61)<|W (aR k61)<|p (aq c k61 c)<|J c<|W c<|W c<|p (aq c c c)<|J c<|W c<|W c<|W c<|p (aq c c c)<|J c<|W c<|W c<|W c<|p (aq c c c)<|J c<|W c<|p (aq c c c)<|J c<|W c<|W c<|W c<|p (aq c c c)<|J c<|W c<|W c<|W c<|W c<|p (aq c c c)<|O c<|aj<|Y ⟨false,c,H62⟩) fun k56 H57=>W (aR k56)<|W (aR k56)<|p (aq c k56 c)<|J c<|W c<|W c<|W c<|W c<|p (aq c c c)<|J c<|W c<|W c<|p (aq c c c)<|J c<|W c<|W c<|W c<|p (aq c c c)<|J c<|W c<|W c<|W c<|p (aq c c c)<|J c<|W c<|p (aq c c c)<|J c<|W c<|W c<|W c<|p (aq c c c)<|J c<|W c<|W c<|W c<|W c<|p (aq c c c)<|O c<|aj<|Y ⟨false,c,H57⟩) fun k47 H48=>W (aR k47)<|W (aR k47)<|W (aR k47)<|p (aq c k47 c)<|J c<|W c<|W c<|p (aq c c c)<|J c<|W c<|p (aq c c c)<|J c<|W c<|p (aq c c c)<|J c<|W c<|W c<|W c<|p (aq c c c)<|J c<|W c<|W c<|W c<|W c<|p (aq c c c)<|J c<|W c<|W c<|p (aq c c c)<|J c<|W c<|W c<|W c<|p (aq c c c)<|J c<|W c<|W c<|W c<|p (aq c c c)<|J c<|W c<|p (aq c c c)<|J c<|W c<|W c<|W c<|p (aq c c c)<|J c<|W c<|W c<|W c<|W c<|p (aq c c c)<|O c<|aj<|Y ⟨false,c,H48⟩
def oF (K:Bool→Hp→Prop):Hp→Prop:=cl Tryz.prog kO [] aC fun r1=>K r1
theorem vn {K:Bool→Hp→Prop} {h:Hp} (H:oF K h):Ct Tryz.prog kP #[] h fun v h'=>∃ r,v = aC r∧K r h':=aw [] Tryz.func50 c c c fun _=>M<|O c<|M<|aa<|Z H en_100 fun r1 _ H1=>O c<|aj<|Y ⟨r1,c,H1⟩
end Go.Proofs.YtemoifebbhoinaaGreatDoor
namespace Go.Proofs.YtemoifebbhoinaaGreatDoor
open Go Mb
variable {ET:Nat} {EF:Nat × Nat}
section
variable {l:List As} {h:Hp} {x:Ptr}
theorem plain_nn {k:PK} (s:aG (bn x k::l) h):x.isNone = false:=nn_of (fun _ e=>by rw [e.1]; rfl) s
theorem tree_nn {k:Caps.T} (s:aG (cM x k::l) h):x.isNone = false:=nn_of (fun _ e=>by rw [e.1]; rfl) s
theorem epochs_nn {k:List Int × List Int} (s:aG (ff x k::l) h):x.isNone = false:=nn_of (fun _ e=>by rw [e.1]; rfl) s
end
theorem sp_plain_Err (x:Ptr) (k:PK) (e:Int) (c:ah) (h1:(PK.do_ k e c).1.2 = true) (h2:(PK.do_ k e c).1.1.fErr ≠ 0):Sp Tryz.prog nr [pv x,.int .i64 e,.agg c.C.toArray] iz [(etB ET EF),bn x k]
    (fun r=>ex fun b:Nat × Nat=>pa_ (r = dw b.1) [trB b.1 ⟨(PK.do_ k e c).1.1.fErr,e,c,dw b.2⟩,(etB ET EF),bn x k]):=by
  intro h st
  have hn:=plain_nn (bd [1] st rfl)
  refine sim_plain_Kernel_Err _ _ _ ?_
  unfold rE
  refine di hn ?_
  refine uY (i:=1) (uJ x k) rfl st fun y g1 s1=>?_
  refine bM (i:=0) (jQ y k e c) rfl s1 fun r g2 hr s2=>?_
  subst hr
  refine di (by rw [h1]; rfl) ?_
  refine cT [] (rest:=[_,_,_]) (sp_Of _ h2) s2 rfl fun r g3 s3=>?_
  obtain ⟨b,x3⟩:=uA s3
  obtain ⟨rfl,y3⟩:=bp.1 x3
  refine cT [2,0] (rest:=[_,_]) (sp_In e c b _) y3 rfl fun r g4 s4=>?_
  obtain ⟨d,x4⟩:=uA s4
  obtain ⟨rfl,y4⟩:=bp.1 x4
  refine ⟨(d,b),aX rfl (cc (l:=[_,_]) (bd [2,2] y4 rfl))⟩
theorem sp_begun11:Sp Tryz.prog kO [] aC [(etB ET EF)] (fun r=>pa_ (r = true) [(etB ET EF)]):=by
  intro h st
  refine vm ?_
  unfold oE
  refine lL (rT ⟨1,2,2⟩ (by decide)) st fun a1 h1 s1=>?_
  refine lL (sp_caps_New 2 (by decide) (by decide)) s1 fun a2 h2 s2=>?_
  refine lL (rW 3 (by decide) (by decide)) s2 fun a3 h3 s3=>?_
  refine lL wo s3 fun a4 h4 s4=>?_
  refine lL ov s4 fun a5 h5 s5=>?_
  refine lL (sp_mem_New 2 (by decide) (by decide)) s5 fun a6 h6 s6=>?_
  have n1:=plain_nn s1
  have n2:=tree_nn s2
  have n3:=epochs_nn s3
  have n4:=tlb_nn s4
  have n5:=table_nn s5
  have n6:=mem_nn s6
  rw [n1,n2,n3,n4,n5,n6]
  refine di rfl ?_
  refine bM (i:=5) (jQ a1 _ 0 ⟨1,1,0,0,0⟩) rfl s6 fun r1 h7 e1 s7=>?_
  refine bM (i:=5) (jQ a1 _ 0 ⟨6,2,1,3,0⟩) rfl s7 fun r2 h8 e2 s8=>?_
  refine bM (i:=5) (jQ a1 _ 0 ⟨21,2,5,77,0⟩) rfl s8 fun r3 h9 e3 s9=>?_
  refine bM (i:=5) (jQ a1 _ 0 ⟨20,2,5,0,0⟩) rfl s9 fun r4 h10 e4 s10=>?_
  refine bM (i:=4) (wu a2 _ 0 1 1) rfl s10 fun r5 h11 e5 s11=>?_
  refine bM (i:=4) (sK a2 _ 0 1 1 3 1) rfl s11 fun r6 h12 e6 s12=>?_
  refine bM (i:=3) (sp_epoch_Begin a3 _ 0 (by decide)) rfl s12 fun r7 h13 e7 s13=>?_
  subst e7
  refine bM (i:=3) (sp_epoch_Ack a3 _ 1 _) rfl s13 fun r8 h14 e8 s14=>?_
  refine bM (i:=1) (kw a5 _ 2 ⟨1,1,1⟩) rfl s14 fun r9 h15 e9 s15=>?_
  refine cT [2,1,0] (rest:=[_,_,_,_]) (sp_user_Do a4 a5 a6 _ _ _ 0 ⟨20,2,3,0,0⟩) s15 rfl fun r10 h16 x16=>?_
  obtain ⟨e10,s16⟩:=bp.1 x16
  subst e1 e2 e3 e4 e5 e6 e8 e9 e10
  refine cT [6,5] (rest:=[_,_,_,_,_]) (sp_plain_Err a1 _ 0 ⟨7,5,0,0,0⟩ (by kernel_rfl) (by decide)) s16 rfl fun r11 h17 x17=>?_
  obtain ⟨⟨b,b'⟩,z17⟩:=uA x17
  obtain ⟨rfl,s17⟩:=bp.1 z17
  refine bM (i:=1) sp_Begun2 rfl s17 fun r12 h18 e12 s18=>?_
  subst e12
  refine dG (by kernel_rfl) ?_
  refine uY (i:=7) (sp_caps_Below a2 _ 0 1) rfl s18 fun r13 h19 s19=>?_
  have e13:((r13.len:Int) == 1) = true:=by
    rw [(cj (j:=0) s19 rfl).1]
    kernel_rfl
  rw [e13]
  refine dG (by kernel_rfl) ?_
  refine bM (i:=7) (sp_epoch_Done a3 _ 1) rfl s19 fun r14 h20 e14 s20=>?_
  subst e14
  refine dG (by kernel_rfl) ?_
  refine uY (i:=7) (sp_epoch_Waits a3 _ 1) rfl s20 fun r15 h21 s21=>?_
  have e15:((r15.len:Int) == 1) = true:=by
    rw [(cj (j:=0) s21 rfl).1]
    kernel_rfl
  rw [e15]
  refine dG (by kernel_rfl) ?_
  refine cT [] (rest:=[_,_,_,_,_,_,_,_,_,_]) (sp_Of 3 (by decide)) s21 rfl fun r16 h22 x22=>?_
  obtain ⟨d,z22⟩:=uA x22
  obtain ⟨rfl,s22⟩:=bp.1 z22
  refine cT [3,0] (rest:=[_,_,_,_,_,_,_,_,_]) (sp_Is1 b d _ tr3 (by kernel_rfl) (.inr ⟨b',by kernel_rfl⟩)) s22 rfl fun r17 h23 x23=>?_
  obtain ⟨rfl,s23⟩:=bp.1 x23
  refine dG rfl ?_
  refine uY (i:=5) (sp_plain_Free a1 _) rfl s23 fun r18 h24 s24=>?_
  have e18:((r18.len:Int) == 1) = true:=by
    rw [(cj (j:=0) s24 rfl).1]
    kernel_rfl
  exact aX e18 (cc (l:=[_,_,_,_,_,_,_,_,_,_,_]) (bd [0,0,0,0,0,1,1,1,1,1,1] s24 rfl))
theorem sp_Begun11:Sp Tryz.prog kP [] aC [(etB ET EF)] (fun r=>pa_ (r = true) [(etB ET EF)]):=by
  intro h st
  refine vn ?_
  unfold oF
  exact bM (i:=0) sp_begun11 rfl st fun r h' hr s=>aX hr s
end Go.Proofs.YtemoifebbhoinaaGreatDoor
namespace Go.Proofs.YtemoifebbhoinaaGreatDoor
open Go Mb
theorem calls_nil:∀ (n:Nat) {l:List As} {h:Hp},aG l h→aG (all iD (List.replicate n (none:Ptr)) (List.replicate n (none:Option KC))::l) h
  | 0,_,_,s=>all_nil s
  | n + 1,l,h,s=>by
    have s1:=star_cons (A:=iD none none) (fun _=>rfl) (calls_nil n s)
    rw [List.replicate_succ,List.replicate_succ]
    obtain ⟨h1,h2,d,e,a,h3,h4,d2,e2,b,s'⟩:=s1
    subst e2
    obtain ⟨d3,d4⟩:=Dj.of_un_right d
    exact ⟨un h1 h3,h4,Dj.un_left d4 d2,by rw [e,mF],⟨h1,h3,d3,rfl,a,b⟩,s'⟩
def newI (s:eY) (b n:Nat) (pp pm pe:Ptr) (cs:Sl) (i:Int) (h:Hp):Prop:=∃ (j:Nat) (ts:Sl) (tp:List Ptr),i = j∧j ≤ n∧tp.length = j∧aG [blk b ci [pv pp,.int .i64 s.fEnvs,sv ts,pv pm,pv pe,sv cs,sv (⟨none,0,0,none⟩:Sl),.int .i64 0],bn pp (PK.new s),vQ sG ts tp,all fG tp (List.replicate j tlb0),jk pm (List.replicate n []),ff pe ([],List.replicate n 0),vQ fA cs (List.replicate n none),all iD (List.replicate n none) (List.replicate n none),vE (⟨none,0,0,none⟩:Sl) []] h
theorem new_round {s:eY} {b n:Nat} {pp pm pe:Ptr} {cs:Sl} (hn8:n ≤ 8) {i:Int} {h:Hp} (H:newI s b n pp pm pe cs i h) (hi:i < n) :
    (both (ld (b,2) cS fun x31=>cl Tryz.prog iE [] gJ fun r32=>hpv Tryz.prog (Instr.buildSlice bP 1 #[(0,(pv r32))]) dN fun (v33:Sl)=>hpv Tryz.prog (Builtin.append_ #[bP,bP] bP #[(sv x31),(sv v33)]) dN fun (v34:Sl)=>Mb.st (b,2) [sv v34] fun h'=>newI s b n pp pm pe cs (IntKind.i64.wrap (i + 1)) h'∧n - (IntKind.i64.wrap (i + 1)).toNat < n - i.toNat)
     (cl Tryz.prog iE [] gJ fun r32=>ld (b,2) cS fun x31=>hpv Tryz.prog (Instr.buildSlice bP 1 #[(0,(pv r32))]) dN fun (v33:Sl)=>hpv Tryz.prog (Builtin.append_ #[bP,bP] bP #[(sv x31),(sv v33)]) dN fun (v34:Sl)=>Mb.st (b,2) [sv v34] fun h'=>newI s b n pp pm pe cs (IntKind.i64.wrap (i + 1)) h'∧n - (IntKind.i64.wrap (i + 1)).toNat < n - i.toNat)) h:=by
  obtain ⟨j,ts,tp,rfl,hj,htp,s6⟩:=H
  have hlt:j < n:=by omega
  have hw:IntKind.i64.wrap ((j:Int) + 1) = ((j + 1:Nat):Int):=by rw [bR (by omega) (by omega)]; rfl
  rw [hw]
  have fin:∀ (r:Ptr) (v:Sl) (h:Hp),aG [fG r tlb0,blk b ci [pv pp,.int .i64 s.fEnvs,sv ts,pv pm,pv pe,sv cs,sv (⟨none,0,0,none⟩:Sl),.int .i64 0],bn pp (PK.new s),vQ sG v (tp++[r]),all fG tp (List.replicate j tlb0),jk pm (List.replicate n []),ff pe ([],List.replicate n 0),vQ fA cs (List.replicate n none),all iD (List.replicate n none) (List.replicate n none),vE (⟨none,0,0,none⟩:Sl) []] h →
      Mb.st (b,2) [sv v] (fun h'=>newI s b n pp pm pe cs ((j + 1:Nat):Int) h'∧n - ((j + 1:Nat):Int).toNat < n - (j:Int).toNat) h:=by
    intro r v h s7
    refine uI (i:=1) s7 rfl (Nat.le_of_ble_eq_true rfl) fun h8 s8=>?_
    refine ⟨⟨j + 1,v,tp++[r],rfl,hlt,by simp [htp],?_⟩,by simp; omega⟩
    have s9:=all_push (by simp [htp]) (bd [0,3] s8 rfl)
    have e:List.replicate j tlb0++[tlb0] = List.replicate (j + 1) tlb0:=List.replicate_succ'.symm
    rw [e] at s9
    exact bd [1,1,1,0] s9 rfl
  refine ⟨?_,?_⟩
  · refine bk ts s6 (i:=0) rfl rfl rfl ?_
    refine lL wo s6 fun r h7 s7=>?_
    refine kH (τ:=Ptr) (i:=3) (enc:=cP) (val:=fun x=>pv x) el_SPtlb_Tlb hG cP_one (fun _=>rfl) (by omega) rfl rfl s7 rfl (by omega) (by omega) fun v h8 s8=>?_
    exact fin r v h8 s8
  · refine lL wo s6 fun r h7 s7=>?_
    refine bk ts s7 (i:=1) rfl rfl rfl ?_
    refine kH (τ:=Ptr) (i:=3) (enc:=cP) (val:=fun x=>pv x) el_SPtlb_Tlb hG cP_one (fun _=>rfl) (by omega) rfl rfl s7 rfl (by omega) (by omega) fun v h8 s8=>?_
    exact fin r v h8 s8
theorem new_start {s:eY} {b n:Nat} {pp pm pe:Ptr} {cs:Sl} {h:Hp}
    (st:aG [blk b ci (fI.C (⟨pp,s.fEnvs,(⟨none,0,0,none⟩:Sl),pm,pe,cs,(⟨none,0,0,none⟩:Sl),0⟩:fI)),bn pp (PK.new s),jk pm (List.replicate n []),ff pe ([],List.replicate n 0),vQ fA cs (List.replicate n none)] h):newI s b n pp pm pe cs 0 h:=by
  have s1:=fN (τ:=bA) (T:=t_api_Event) (m:=16) (enc:=aE.C) (calls_nil n (fN (τ:=Ptr) (T:=sG) (m:=1) (enc:=cP) (all_nil (A:=fG) st)))
  exact ⟨0,⟨none,0,0,none⟩,[],rfl,Nat.zero_le _,rfl,bd [4,4,2,2,2,2,2,1] s1 rfl⟩
theorem new_end {s:eY} (hs:PK.sized s = true) {b n:Nat} (hn:s.fCores = n) {pp pm pe:Ptr} {cs:Sl} {h:Hp} (H:newI s b n pp pm pe cs n h):aG [cF (some (b,0)) (KK.new s)] h:=by
  obtain ⟨j,ts,tp,hj,hj2,htp,s6⟩:=H
  have:j = n:=by omega
  subst this
  have ok:=kok_new hs
  have e:KK.new s = ⟨PK.new s,List.replicate j tlb0,List.replicate j [],([],List.replicate j 0),List.replicate j none,[],0⟩:=by unfold KK.new; rw [hn]; rfl
  rw [e] at ok ⊢
  exact ne (z:=⟨b,pp,ts,tp,pm,pe,cs,List.replicate j none,⟨none,0,0,none⟩⟩) ⟨by simpa using htp,by simp⟩ ok s6
theorem sp_kern_New (s:eY) (hs:PK.sized s = true):Sp Tryz.prog xc [.agg s.C.toArray] ku [] (fun r=>aG [cF r (KK.new s)]):=by
  intro h st
  have hz:=fQ.1 hs
  obtain ⟨n,hn⟩:=Int.eq_ofNat_of_zero_le (show 0 ≤ s.fCores by omega)
  have hn8:n ≤ 8:=by omega
  refine sim_kern_New _ ?_
  unfold sh_kern_New
  refine lL (rT s hs) st fun pp h1 s1=>?_
  have hpp:pp.isNone = false:=by
    obtain ⟨_,h2,_⟩:=fO s1; rw [h2]; rfl
  refine di hpp ?_
  have mk:∀ {l:List As} {h:Hp} {K:Sl→Hp→Prop},aG l h→(∀ v h',aG (vQ fA v (List.replicate n none)::l) h'→K v h')→hpv Tryz.prog (Instr.makeSlice mM (.int .i64 s.fCores) (.int .i64 s.fCores)) qx K h:=by
    intro l h K s2 k
    rw [hn]
    exact nS (τ:=Ptr) (x0:=none) (enc:=cP) (n:=n) (T:=fA) (m:=1) el_SPkern_call rfl s2 (by omega) (by omega) k
  have em:s.fCores.toNat = n:=by omega
  refine ⟨?_,?_⟩
  · refine lL (sp_mail_New s.fCores (by omega) (by omega)) s1 fun pm h2 s2=>?_
    refine ⟨?_,?_⟩
    · refine lL (rW s.fCores (by omega) (by omega)) s2 fun pe h3 s3=>?_
      rw [em] at s3
      refine mk s3 fun cs h4 s4=>?_
      refine pt s4 fun b h5 s5=>?_
      refine Lp.intro (fun (i:Int) h=>newI s b n pp pm pe cs i h) (fun (i:Int) _=>n - i.toNat) (new_start (bd [0,4,3,2,1] s5 rfl)) ?_
      intro i h H
      unfold kern_New_l1
      refine ba (fun d=>new_round hn8 H (by have:=of_decide_eq_true d; omega)) (fun d=>?_)
      have:i = n:=by obtain ⟨j,_,_,e,hj,_⟩:=H; have:=of_decide_eq_false d; omega
      subst this
      exact new_end hs hn H
    · refine mk s2 fun cs h3 s3=>?_
      refine lL (rW s.fCores (by omega) (by omega)) s3 fun pe h4 s4=>?_
      rw [em] at s4
      refine pt s4 fun b h5 s5=>?_
      refine Lp.intro (fun (i:Int) h=>newI s b n pp pm pe cs i h) (fun (i:Int) _=>n - i.toNat) (new_start (bd [0,3,2,0,0] s5 rfl)) ?_
      intro i h H
      unfold kern_New_l2
      refine ba (fun d=>new_round hn8 H (by have:=of_decide_eq_true d; omega)) (fun d=>?_)
      have:i = n:=by obtain ⟨j,_,_,e,hj,_⟩:=H; have:=of_decide_eq_false d; omega
      subst this
      exact new_end hs hn H
  · refine mk s1 fun cs h2 s2=>?_
    refine lL (sp_mail_New s.fCores (by omega) (by omega)) s2 fun pm h3 s3=>?_
    refine lL (rW s.fCores (by omega) (by omega)) s3 fun pe h4 s4=>?_
    rw [em] at s4
    refine pt s4 fun b h5 s5=>?_
    refine Lp.intro (fun (i:Int) h=>newI s b n pp pm pe cs i h) (fun (i:Int) _=>n - i.toNat) (new_start (bd [0,3,1,0,0] s5 rfl)) ?_
    intro i h H
    unfold kern_New_l3
    refine ba (fun d=>new_round hn8 H (by have:=of_decide_eq_true d; omega)) (fun d=>?_)
    have:i = n:=by obtain ⟨j,_,_,e,hj,_⟩:=H; have:=of_decide_eq_false d; omega
    subst this
    exact new_end hs hn H
end Go.Proofs.YtemoifebbhoinaaGreatDoor
