/- Part of the proof of: The law HistAll returns true for every input, and leaves its arguments as they were. -/
import Derived.Test.YtochchocdckegaaGreatDoorHistAll14
set_option linter.all false
set_option maxRecDepth 20000
namespace Go.Proofs.YtochchocdckegaaGreatDoor
open Go.Proofs.Tryz
open Go.IntKind (i64 u64)
open _root_.List (drop_length length_append range replicate)
open _root_.Nat (le_refl zero_le)
section
open Go Mb
def lz (x:Ptr) (c:Int × Int):As:=fun h=>∃ b:Nat,(x = some (b,0))/\ay [blk b rl [.int .u64 c.1,.int .i64 c.2]] h
theorem cell_op {x:Ptr} {c:Int × Int} {l:List As} {h:Hp} (s0:ay (lz x c::l) h):∃ b,x = some (b,0)/\ay (blk b rl [.int .u64 c.1,.int .i64 c.2]::l) h:=by
 obtain ⟨b,hx,st⟩:=op_ s0;exact ⟨b,hx,st⟩
theorem cell_cl {b:Nat} {v n:Int} {l:List As} {h:Hp} (st:ay (blk b rl [.int .u64 v,.int .i64 n]::l) h):ay (lz (some (b,0)) (v,n)::l) h:=cl_ (m:=fun b=>[blk b rl [.int .u64 (v,n).1,.int .i64 (v,n).2]]) b rfl st
namespace Cell
def tick (c:Int × Int):Int × Int:=(c.1,i64.wrap (c.2 + 1))
def cas (c:Int × Int) (o v:Int):Bool × Int × Int:=if c.1 = o then (true,v,(tick c).2) else (false,tick c)
def up (c:Int × Int) (m:Int):(Int × Bool) × Int × Int:=if c.1 >= m then ((c.1,false),tick c) else ((u64.wrap (c.1 + 1),true),(u64.wrap (c.1 + 1),(tick c).2))
end Cell
theorem sp_cell_New (v:Int):Sp prog tW [.int .u64 v] pY [] (fun r=>ay [lz r (v,0)]):=by
 intro h st;refine sim_cell_New _ ?_;unfold sh_cell_New;exact pC st fun b h' s1=>cell_cl s1
theorem sp_cell_Load (x:Ptr) (c:Int × Int):Sp prog mP [pv x] ic [lz x c] (fun r=>pa_ (r = c.1) [lz x (Cell.tick c)]):=by
 intro h s0;obtain ⟨b,rfl,st⟩:=cell_op s0;refine sim_cell_Cell_Load _ ?_;unfold uR;refine dN rfl (cL ?_);refine bt c.2 st (i:=0) rfl rfl rfl ?_;refine vv (i:=0) st rfl (le_refl _) fun h2 s2=>?_;refine bt c.1 s2 (i:=0) rfl rfl rfl ?_;exact ba rfl (cell_cl s2)
theorem sp_cell_Cas (x:Ptr) (c:Int × Int) (o v:Int):Sp prog rW [pv x,.int .u64 o,.int .u64 v] aD [lz x c] (fun r=>pa_ (r = (Cell.cas c o v).1) [lz x (Cell.cas c o v).2]):=by
 intro h s0;obtain ⟨b,rfl,st⟩:=cell_op s0;refine sim_cell_Cell_Cas _ _ _ ?_;unfold wy;refine dN rfl (cL ?_);refine bt c.2 st (i:=0) rfl rfl rfl ?_;refine vv (i:=0) st rfl (le_refl _) fun h2 s2=>?_;refine bt c.1 s2 (i:=0) rfl rfl rfl ?_;refine aX (fun k=>?_) (fun k=>?_)
 ·have k':¬ c.1 = o:=by simpa using k
  have e:Cell.cas c o v = (false,Cell.tick c):=if_neg k';rw [e];exact ba rfl (cell_cl s2)
 ·have k':c.1 = o:=by simpa using k
  have e:Cell.cas c o v = (true,v,(Cell.tick c).2):=if_pos k';rw [e];refine vv (i:=0) s2 rfl (show 0 + 0 + 1 <= 2 by decide) fun h3 s3=>?_;exact ba rfl (cell_cl s3)
theorem sp_cell_Up (x:Ptr) (c:Int × Int) (m:Int):Sp prog pN [pv x,.int .u64 m] bP [lz x c] (fun r=>pa_ (r = (Cell.up c m).1) [lz x (Cell.up c m).2]):=by
 intro h s0;obtain ⟨b,rfl,st⟩:=cell_op s0;refine sim_cell_Cell_Up _ _ ?_;unfold sh_cell_Cell_Up;refine dN rfl (cL ?_);refine bt c.2 st (i:=0) rfl rfl rfl ?_;refine vv (i:=0) st rfl (le_refl _) fun h2 s2=>?_;refine bt c.1 s2 (i:=0) rfl rfl rfl ?_;refine aX (fun k=>?_) (fun k=>?_)
 ·have k':c.1 >= m:=by simpa using k
  have e:Cell.up c m = ((c.1,false),Cell.tick c):=if_pos k';rw [e];refine bt c.1 s2 (i:=0) rfl rfl rfl ?_;exact ba rfl (cell_cl s2)
 ·have k':¬ c.1 >= m:=by simpa using k
  have e:Cell.up c m = ((u64.wrap (c.1 + 1),true),(u64.wrap (c.1 + 1),(Cell.tick c).2)):=if_neg k';rw [e];refine bt c.1 s2 (i:=0) rfl rfl rfl ?_;refine vv (i:=0) s2 rfl (show 0 + 0 + 1 <= 2 by decide) fun h3 s3=>?_;refine bt (u64.wrap (c.1 + 1)) s3 (i:=0) rfl rfl rfl ?_;exact ba rfl (cell_cl s3)
def vO (x:Ptr) (k:(Int × Int) × (Int × Int)):As:=fun h=>∃ bs:Nat × Ptr × Ptr,(x = some (bs.1,0))/\ay [blk bs.1 nu [pv bs.2.1,pv bs.2.2],lz bs.2.1 k.1,lz bs.2.2 k.2] h
theorem lock_op {x:Ptr} {k:(Int × Int) × (Int × Int)} {l:List As} {h:Hp} (s0:ay (vO x k::l) h):∃ b p q,x = some (b,0)/\ay (blk b nu [pv p,pv q]::lz p k.1::lz q k.2::l) h:=by
 obtain ⟨⟨b,p,q⟩,hx,st⟩:=op_ s0;exact ⟨b,p,q,hx,st⟩
theorem lock_cl {b:Nat} {p q:Ptr} {k1 k2:Int × Int} {l:List As} {h:Hp} (st:ay (blk b nu [pv p,pv q]::lz p k1::lz q k2::l) h):ay (vO (some (b,0)) (k1,k2)::l) h :=
 cl_ (m:=fun bs:Nat × Ptr × Ptr=>[blk bs.1 nu [pv bs.2.1,pv bs.2.2],lz bs.2.1 (k1,k2).1,lz bs.2.2 (k1,k2).2]) (b,p,q) rfl st
namespace Lock
abbrev S:=(Int × Int) × (Int × Int)
def draw (k:S):Int × S:=(u64.wrap ((Cell.up k.1 18446744073709551615).1.1 - 1),((Cell.up k.1 18446744073709551615).2,k.2))
def turn (k:S) (t:Int):Bool × S:=if k.2.1 = t then (decide (t < k.1.1),(Cell.tick k.1,Cell.tick k.2)) else (false,(k.1,Cell.tick k.2))
def pass (k:S) (t:Int):Bool × S:=if (turn k t).1 then ((Cell.cas (turn k t).2.2 t (u64.wrap (t + 1))).1,((turn k t).2.1,(Cell.cas (turn k t).2.2 t (u64.wrap (t + 1))).2)) else (false,(turn k t).2)
end Lock
theorem sp_ticket_New:Sp prog xM [] um [] (fun r=>ay [vO r ((0,0),(0,0))]):=by
 intro h st;refine sim_ticket_New ?_;unfold sh_ticket_New;refine cW [] (sp_cell_New 0) st rfl fun p h1 s1=>?_;refine cW [] (sp_cell_New 0) (dq s1) rfl fun q h2 s2=>?_;refine pC (dq s2) fun b h3 s3=>?_;exact lock_cl (bd [0,1] s3 rfl)
theorem sp_ticket_Draw (x:Ptr) (k:Lock.S):Sp prog nX [pv x] ic [vO x k] (fun r=>pa_ (r = (Lock.draw k).1) [vO x (Lock.draw k).2]):=by
 intro h s0;obtain ⟨b,p,q,rfl,st⟩:=lock_op s0;refine sim_ticket_Lock_Draw _ ?_;unfold sk;refine dN rfl (cL ?_);refine bt p st (i:=0) rfl rfl rfl ?_;refine cW [1] (sp_cell_Up p k.1 _) st rfl fun r h1 s1=>?_;obtain ⟨hr,s2⟩:=bA.1 s1;subst hr;exact ba rfl (lock_cl (bd [1] s2 rfl))
theorem sp_ticket_Turn (x:Ptr) (k:Lock.S) (t:Int):Sp prog kB [pv x,.int .u64 t] aD [vO x k] (fun r=>pa_ (r = (Lock.turn k t).1) [vO x (Lock.turn k t).2]):=by
 intro h s0;obtain ⟨b,p,q,rfl,st⟩:=lock_op s0;refine sim_ticket_Lock_Turn _ _ ?_;unfold si;refine eG rfl (cL ?_);refine bt q st (i:=0) rfl rfl rfl ?_;refine cW [2] (sp_cell_Load q k.2) st rfl fun r h1 s1=>?_;obtain ⟨hr,s2⟩:=bA.1 s1;subst hr;refine aX (fun c=>?_) (fun c=>?_)
 ·have c':k.2.1 = t:=by simpa using c
  have e:Lock.turn k t = (decide (t < k.1.1),(Cell.tick k.1,Cell.tick k.2)):=if_pos c';rw [e];refine bt p s2 (i:=1) rfl rfl rfl ?_;refine cW [2] (sp_cell_Load p k.1) s2 rfl fun r h2 s3=>?_;obtain ⟨hr,s4⟩:=bA.1 s3;subst hr;exact ba rfl (lock_cl (bd [2] s4 rfl))
 ·have c':¬ k.2.1 = t:=by simpa using c
  have e:Lock.turn k t = (false,(k.1,Cell.tick k.2)):=if_neg c';rw [e];exact ba rfl (lock_cl (bd [1,1] s2 rfl))
theorem sp_ticket_Pass (x:Ptr) (k:Lock.S) (t:Int):Sp prog nW [pv x,.int .u64 t] aD [vO x k] (fun r=>pa_ (r = (Lock.pass k t).1) [vO x (Lock.pass k t).2]):=by
 intro h s0;refine sim_ticket_Lock_Pass _ _ ?_;unfold sj;refine cW [0] (sp_ticket_Turn x k t) s0 rfl fun r h1 s1=>?_;obtain ⟨hr,s2⟩:=bA.1 s1;subst hr;refine aX (fun c=>?_) (fun c=>?_)
 ·have e:Lock.pass k t = ((Cell.cas (Lock.turn k t).2.2 t (u64.wrap (t + 1))).1,((Lock.turn k t).2.1,(Cell.cas (Lock.turn k t).2.2 t (u64.wrap (t + 1))).2)):=if_pos c;rw [e];obtain ⟨b,p,q,rfl,st⟩:=lock_op s2;refine cL (bt q st (i:=0) rfl rfl rfl ?_);refine cW [2] (sp_cell_Cas q _ t _) st rfl fun r h2 s3=>?_;obtain ⟨hr,s4⟩:=bA.1 s3;subst hr;exact ba rfl (lock_cl (bd [1,1] s4 rfl))
 ·have e:Lock.pass k t = (false,(Lock.turn k t).2):=by unfold Lock.pass; rw [c]; rfl
  rw [e];exact ba rfl s2
end
section
open Go Mb
def qj (K:kT Bool):hT:=cl prog wG [(.int .i64 2)] uo fun r24=>cl prog lV [] iT fun r25=>cl prog jd [] gY fun r26=>cl prog tS [(.int .i64 3)] pX fun r27=>cl prog tW [(.int .u64 5)] pY fun r28=>cl prog xM [] um fun r29=>cl prog xN [(.int .i64 2)] td fun r30=>br ((((((r24.isNone || r25.isNone) || r26.isNone) || r27.isNone) || r28.isNone) || r29.isNone) || r30.isNone) ( K false) ( cl prog eR [(pv r25),(.int .i64 1),(.agg (an.C (⟨1,2,3⟩:an)).toArray)] bn fun r59=>cl prog pG [(pv r26),(.agg (ao.C (⟨1,5,1,1⟩:ao)).toArray)] aD fun r67=>cl prog pF [(pv r26),(.int .i64 1),(.int .i64 5)] fZ fun r70=>cl prog nO [(pv r27),(.int .i64 0),(.int .u64 4)] eN fun r74=>cl prog mL [(pv r27),(.int .i64 2)] bP fun r77=>cl prog pN [(pv r28),(.int .u64 9)] bP fun r82=>cl prog nX [(pv r29)] ic fun r86=>cl prog jU [(pv r30)] bQ fun r89=>cl prog me [] aD fun r97=>br (((((((((((r97 && (r59 == 0)) && (gS (⟨1,2,3⟩:an)).2) && (((gS (⟨1,2,3⟩:an)).1) == 33059)) && r67) && r70.2) && (r70.1.fFa == 1)) && (r74 == 2)) && (r77.1 == 4)) && r77.2) && (r82.1 == 6)) && (r86 == 0)) ( cl prog kB [(pv r29),(.int .u64 0)] aD fun r141=>br r141 ( cl prog nW [(pv r29),(.int .u64 0)] aD fun r145=>br ((r145 && (r89.1 == 0)) && r89.2) ( cl prog fW [(pv r24),(.int .i64 1),(.int .i64 3),(.int .u64 9)] aD fun r156=>br ((r156 && (aH (⟨6,0,0,0,0⟩:al)).2) && (((aH (⟨6,0,0,0,0⟩:al)).1) == 6)) ( cl prog im [(.agg (al.C (⟨6,8,0,1,0⟩:al)).toArray),(.int .i64 2)] bn fun r167=>br (r167 == 2) ( cl prog n_word_Args [(.int .i64 3)] eN fun r171=>br ((r171 == 4) && (bm 1 3)) ( cl prog mH [(pv r25),(.int .i64 2)] aU fun r179=>br ((r179.len:Int) == 1) ( cl prog qK [(pv r30)] ic fun r185=>K (r185 == 2)) ( K false)) ( K false)) ( K false)) ( K false)) ( K false)) ( K false)) ( K false))
theorem xt {K:kT Bool} {h:Hp} (H:qj K h):cl prog ma [] aD K h:=z_i func144 p p fun _=>O<|U p<|O<|aa<|G H en_92 fun r24 _ H1=>aa<|G H1 en_73 fun r25 _ H2=>aa<|G H2 en_59 fun r26 _ H3=>aa<|G H3 en_57 fun r27 _ H4=>J (ar p)<|J (ar p)<|J (ar p)<|U p<|O<|aa<|G H4 en_167 fun r28 _ H5=>aa<|G H5 en_168 fun r29 _ H6=>aa<|G H6 en_93 fun r30 _ H7=>J (ar p)<|J (ar p)<|U p<|ai<|O<|M p<|J (cy underlying131 p)<|M p<|W p p (aL _) (fun g8=>wv<|ag p)<|W p p (aL _) (fun g9=>wv<|cy underlying121<|aC p g9)<|J (dy p p)<|M p<|W p p (aL _) (fun g10=>wv<|ag p)<|W p p (aL _) (fun g11=>wv<|cy underlying99<|aC p g11)<|J (dy p p)<|M p<|W p p (aL _) (fun g12=>wv<|ag p)<|W p p (aL _) (fun g13=>wv<|cy underlying74<|aC p g13)<|J (dy p p)<|M p<|W p p (aL _) (fun g14=>wv<|ag p)<|W p p (aL _) (fun g15=>wv<|cy underlying230<|aC p g15)<|J (dy p p)<|M p<|W p p (aL _) (fun g16=>wv<|ag p)<|W p p (aL _) (fun g17=>wv<|cy underlying232<|aC p g17)<|J (dy p p)<|M p<|W p p (aL _) (fun g18=>wv<|ag p)<|W p p (aL _) (fun g19=>wv<|cy underlying133<|aC p g19)<|J (dy p p)<|ad<|av p H7 (fun k20 H21=>O<|U p<|ah<|F ⟨false,p,H21⟩) fun k20 H21=>ak<|O<|M p<|J (bg p<|nQ 1 2 3)<|aa<|G H21 en_74 fun r59 _ H22=>U p<|O<|J (bg p<|nQ 1 2 3)<|aa<|cu (vs:=[(.agg (an.C (⟨1,2,3⟩:an)).toArray)]) (bu<|ct_pte_Put (⟨1,2,3⟩:an) _) en_117 p p<|M p<|J (aj p p)<|J (aj p p)<|J (ar p)<|U p<|O<|M p<|J (bg p<|wV 1 5 1 1)<|aa<|G H22 en_122 fun r67 _ H23=>U p<|O<|M p<|aa<|G H23 en_119 fun r70 _ H24=>M p<|J (aj p p)<|J (aj p p)<|aa<|aT (l:=ao.C (⟨0,0,0,0⟩:ao)) lD p p fun b12=>aa<|aV (k:=0) (vs:=ao.C r70.1) gb p p p p p p p<|U p<|O<|M p<|aa<|G H24 en_50 fun r74 _ H25=>U p<|O<|M p<|aa<|G H25 en_41 fun r77 _ H26=>M p<|J (aj p p)<|J (aj p p)<|J (ar p)<|U p<|O<|M p<|aa<|G H26 en_169 fun r82 _ H27=>M p<|J (aj p p)<|J (aj p p)<|J (ar p)<|U p<|O<|M p<|aa<|G H27 en_170 fun r86 _ H28=>U p<|O<|M p<|aa<|G H28 en_131 fun r89 _ H29=>M p<|J (aj p p)<|J (aj p p)<|J (ar p)<|U p<|O<|J (bg p<|build_33_0 6)<|aa<|cu (vs:=[(.agg (al.C (⟨6,0,0,0,0⟩:al)).toArray)]) (bu<|kI (⟨6,0,0,0,0⟩:al) _) en_44 p p<|M p<|J (aj p p)<|J (aj p p)<|J (ar p)<|U p<|O<|aa<|G H29 en_171 fun r97 _ H30=>M p<|W p p (aA _) (fun g31=>wv<|ag p)<|W p p (aA _) (fun g32=>wv<|bM (aC p g32) p)<|J (bN p p)<|M p<|W p p (aA _) (fun g33=>wv<|ag p)<|J (bN p p)<|M p<|W p p (aA _) (fun g34=>wv<|ag p)<|W p p (aA _) (fun g35=>wv<|bM (aC p g35) p)<|J (bN p p)<|M p<|W p p (aA _) (fun g36=>wv<|ag p)<|J (bN p p)<|M p<|W p p (aA _) (fun g37=>wv<|ag p)<|J (bN p p)<|M p<|W p p (aA _) (fun g38=>wv<|ae mt p)<|W p p (aA _) (fun g39=>cv<|bc (k:=0) aR (aC p g39) p p)<|W p p (aA _) (fun g40=>wv<|bM (aC p g40) p)<|J (bN p p)<|M p<|W p p (aA _) (fun g41=>wv<|ag p)<|W p p (aA _) (fun g42=>wv<|bM (aC p g42) p)<|J (bN p p)<|M p<|W p p (aA _) (fun g43=>wv<|ag p)<|W p p (aA _) (fun g44=>wv<|bM (aC p g44) p)<|J (bN p p)<|M p<|W p p (aA _) (fun g45=>wv<|ag p)<|J (bN p p)<|M p<|W p p (aA _) (fun g46=>wv<|ag p)<|W p p (aA _) (fun g47=>wv<|bM (aC p g47) p)<|J (bN p p)<|M p<|W p p (aA _) (fun g48=>wv<|ag p)<|W p p (aA _) (fun g49=>wv<|bM (aC p g49) p)<|J (bN p p)<|M p<|W p p (aA _) (fun g50=>wv<|ag p)<|bS H30 (fun k52 H53=>z_O (Z k52)<|gz H53 en_172 (aZ (aC p k52)<|aZ p bX) p fun r141 _ H54=>J (aI p k52 p)<|M p<|W p p (aA _) (fun g55=>wv<|ag p)<|bS H54 (fun k57 H58=>z_O (Z k57)<|gz H58 en_173 (aZ (aC p k57)<|aZ p bX) p fun r145 _ H59=>J (aI p k57 p)<|M p<|W p p (aA _) (fun g60=>wv<|ag p)<|W p p (aA _) (fun g61=>wv<|bM (aC p g61) p)<|J (bN p p)<|M p<|W p p (aA _) (fun g62=>wv<|ag p)<|J (bN p p)<|M p<|W p p (aA _) (fun g63=>wv<|ag p)<|bS H59 (fun k65 H66=>z_O (Z k65)<|gz H66 en_125 (aZ (aC p k65)<|aZ p<|aZ p<|aZ p bX) p fun r156 _ H67=>J (aI p k65 p)<|M p<|W p p (aA _) (fun g68=>wv<|ag p)<|J (bN p p)<|M p<|W p p (aA _) (fun g69=>wv<|ag p)<|W p p (aA _) (fun g70=>wv<|bM (aC p g70) p)<|J (bN p p)<|M p<|W p p (aA _) (fun g71=>wv<|bg p<|kh 6 8 0 1)<|bS H67 (fun k73 H74=>z_O (Z k73)<|gz H74 en_72 (aZ (aC p k73)<|aZ p bX) p fun r167 _ H75=>z_O (Z k73)<|z_p (bM p p)<|J (aI p k73 p)<|M p<|bS H75 (fun k77 H78=>z_O (Z k77)<|G H78 en_174 fun r171 _ H79=>z_O (Z k77)<|z_p (bM p p)<|J (aI p k77 p)<|M p<|dk (vs:=[(.int .i64 1),(.int .i64 3)]) p p p (aA _) (fun g80=>bu<|du 1 3 _) sH (fun g80=>p) p<|J (bN p p)<|M p<|W p p (aA _) (fun g81=>wv<|ag p)<|bS H79 (fun k83 H84=>z_O (Z k83)<|gz H84 en_136 (aZ (aC p k83)<|aZ p bX) p fun r179 _ H85=>z_O (Z k83)<|z_p (dh p underlying27 p)<|z_O (Z k83)<|z_p (bM p p)<|J (aI p k83 p)<|M p<|W p p (aA _) (fun g86=>wv<|ag p)<|bS H85 (fun k88 H89=>z_O (Z k88)<|gz H89 en_175 (aZ (aC p k88) bX) p fun r185 _ H90=>z_O (Z k88)<|z_p (bM p p)<|J (aI p k88 p)<|U p<|ah<|F ⟨(r185 == 2),p,H90⟩) fun k88 H89=>Y (ax k88)<|Y (ax k88)<|J (ap p k88 p)<|U p<|ah<|F ⟨false,p,H89⟩) fun k83 H84=>Y (ax k83)<|Y (ax k83)<|Y (ax k83)<|J (ap p k83 p)<|M p<|Y p<|Y p<|Y p<|J (ap p p p)<|U p<|ah<|F ⟨false,p,H84⟩) fun k77 H78=>Y (ax k77)<|Y (ax k77)<|J (ap p k77 p)<|M p<|Y p<|J (ap p p p)<|M p<|Y p<|Y p<|Y p<|Y p<|J (ap p p p)<|M p<|Y p<|Y p<|Y p<|J (ap p p p)<|U p<|ah<|F ⟨false,p,H78⟩) fun k73 H74=>Y (ax k73)<|Y (ax k73)<|J (ap p k73 p)<|M p<|Y p<|Y p<|J (ap p p p)<|M p<|Y p<|J (ap p p p)<|M p<|Y p<|Y p<|Y p<|Y p<|J (ap p p p)<|M p<|Y p<|Y p<|Y p<|J (ap p p p)<|U p<|ah<|F ⟨false,p,H74⟩) fun k65 H66=>Y (ax k65)<|J (ap p k65 p)<|M p<|Y p<|J (ap p p p)<|M p<|Y p<|Y p<|J (ap p p p)<|M p<|Y p<|Y p<|Y p<|J (ap p p p)<|M p<|Y p<|Y p<|J (ap p p p)<|M p<|Y p<|J (ap p p p)<|M p<|Y p<|Y p<|Y p<|Y p<|J (ap p p p)<|M p<|Y p<|Y p<|Y p<|J (ap p p p)<|U p<|ah<|F ⟨false,p,H66⟩) fun k57 H58=>Y (ax k57)<|J (ap p k57 p)<|M p<|Y p<|Y p<|J (ap p p p)<|M p<|Y p<|J (ap p p p)<|M p<|Y p<|Y p<|J (ap p p p)<|M p<|Y p<|J (ap p p p)<|M p<|Y p<|Y p<|J (ap p p p)<|M p<|Y p<|Y p<|Y p<|J (ap p p p)<|M p<|Y p<|Y p<|J (ap p p p)<|M p<|Y p<|J (ap p p p)<|M p<|Y p<|Y p<|Y p<|Y p<|J (ap p p p)<|M p<|Y p<|Y p<|Y p<|J (ap p p p)<|U p<|ah<|F ⟨false,p,H58⟩) fun k52 H53=>Y (ax k52)<|J (ap p k52 p)<|M p<|Y p<|Y p<|J (ap p p p)<|M p<|Y p<|Y p<|J (ap p p p)<|M p<|Y p<|J (ap p p p)<|M p<|Y p<|Y p<|J (ap p p p)<|M p<|Y p<|J (ap p p p)<|M p<|Y p<|Y p<|J (ap p p p)<|M p<|Y p<|Y p<|Y p<|J (ap p p p)<|M p<|Y p<|Y p<|J (ap p p p)<|M p<|Y p<|J (ap p p p)<|M p<|Y p<|Y p<|Y p<|Y p<|J (ap p p p)<|M p<|Y p<|Y p<|Y p<|J (ap p p p)<|U p<|ah<|F ⟨false,p,H53⟩
def qk (K:kT Bool):hT:=cl prog ma [] aD fun r1=>K r1
theorem xu {K:kT Bool} {h:Hp} (H:qk K h):cl prog mb [] aD K h:=z_i func103 p p fun _=>O<|U p<|O<|aa<|G H en_144 fun r1 _ H1=>U p<|ah<|F ⟨r1,p,H1⟩
end
section
open Go Mb
variable {ET:Nat} {EF:Nat × Nat}
section
variable {l:List As} {h:Hp} {x:Ptr}
theorem mem_nn {fs:List (List Int)} (s:ay (iQ x fs::l) h):x.isNone = false:=by obtain ⟨b,_,_,rfl,_⟩:=mem_op s; rfl
theorem nn_of {α:Type} {φ:α->Prop} {m:α->List As} (hx:∀ z,φ z->x.isNone = false) (s:ay ((fun h=>∃ z,φ z/\ay (m z) h)::l) h):x.isNone = false:=by
 obtain ⟨z,f,_⟩:=op_ s;exact hx z f
theorem table_nn {ps:List Pte} (s:ay (df x ps::l) h):x.isNone = false:=nn_of (fun _ e=>by rw [e.1]; rfl) s
theorem tlb_nn {t:List TL × Int} (s:ay (fX x t::l) h):x.isNone = false:=nn_of (fun _ e=>by rw [e.1]; rfl) s
theorem mail_nn {bs:List (List Int)} (s:ay (jF x bs::l) h):x.isNone = false:=nn_of (fun _ e=>by rw [e.1]; rfl) s
theorem cell_nn {c:Int × Int} (s:ay (lz x c::l) h):x.isNone = false:=nn_of (fun _ e=>by rw [e]; rfl) s
theorem lock_nn {k:(Int × Int) × (Int × Int)} (s:ay (vO x k::l) h):x.isNone = false:=nn_of (fun _ e=>by rw [e]; rfl) s
theorem pool_nn {p:List Int} (s:ay (gq x p::l) h):x.isNone = false:=nn_of (fun _ e=>by rw [e.1]; rfl) s
end
theorem sp_Begun1:Sp prog me [] aD [(etB ET EF)] (fun r=>pa_ (r = true) [(etB ET EF)]):=by
 intro h st;refine xw ?_;unfold qm;exact cc (i:=0) sp_begun1 rfl st fun r h' hr s=>ba hr s
theorem sp_begun2:Sp prog ma [] aD [(etB ET EF)] (fun r=>pa_ (r = true) [(etB ET EF)]):=by
 intro h st;refine xt ?_;unfold qj;refine nl (sp_mem_New 2 (by decide) (by decide)) st fun a1 h1 s1=>?_;refine nl oY s1 fun a2 h2 s2=>?_;refine nl xg s2 fun a3 h3 s3=>?_;refine nl (sp_mail_New 3 (by decide) (by decide)) s3 fun a4 h4 s4=>?_;refine nl (sp_cell_New 5) s4 fun a5 h5 s5=>?_;refine nl sp_ticket_New s5 fun a6 h6 s6=>?_;refine nl (sp_pool_New 2 (by decide) (by decide)) s6 fun a7 h7 s7=>?_;have n1:=mem_nn s1;have n2:=table_nn s2;have n3:=tlb_nn s3;have n4:=mail_nn s4;have n5:=cell_nn s5;have n6:=lock_nn s6;have n7:=pool_nn s7;rw [n1,n2,n3,n4,n5,n6,n7];refine dN rfl ?_;refine cc (i:=5) (kM a2 _ 1 ⟨1,2,3⟩) rfl s7 fun r1 h8 e1 s8=>?_;refine cc (i:=4) (sp_tlb_Fill a3 _ ⟨1,5,1,1⟩) rfl s8 fun r2 h9 e2 s9=>?_;refine cc (i:=4) (sp_tlb_Find a3 _ 1 5) rfl s9 fun r3 h10 e3 s10=>?_;refine cc (i:=3) (sp_mail_All a4 _ 0 4 (fun l hl=>?_)) rfl s10 fun r4 h11 e4 s11=>?_
 ·have:l = []:=by simpa using hl
  subst this;exact ⟨fun _ h=>(by cases h),.nil,by decide⟩
 refine cc (i:=3) (sp_mail_Take a4 _ 2) rfl s11 fun r5 h12 e5 s12=>?_;refine cc (i:=2) (sp_cell_Up a5 _ 9) rfl s12 fun r6 h13 e6 s13=>?_;refine cc (i:=1) (sp_ticket_Draw a6 _) rfl s13 fun r7 h14 e7 s14=>?_;refine cc (i:=0) (xh a7 _) rfl s14 fun r8 h15 e8 s15=>?_;refine cc (i:=7) sp_Begun1 rfl s15 fun r9 h16 e9 s16=>?_;subst e1 e2 e3 e4 e5 e6 e7 e8 e9;refine eG (by kernel_rfl) ?_;refine cc (i:=1) (sp_ticket_Turn a6 _ 0) rfl s16 fun r10 h17 e10 s17=>?_;subst e10;refine eG (by kernel_rfl) ?_;refine cc (i:=1) (sp_ticket_Pass a6 _ 0) rfl s17 fun r11 h18 e11 s18=>?_;subst e11;refine eG (by kernel_rfl) ?_;refine cc (i:=6) (mC a1 _ 1 3 9) rfl s18 fun r12 h19 e12 s19=>?_;subst e12;refine eG (by kernel_rfl) ?_;refine ut (jB ⟨6,8,0,1,0⟩ 2) s19 fun r13 h20 e13 s20=>?_;subst e13;refine eG (by kernel_rfl) ?_;refine ut (sp_word_Args 3) s20 fun r14 h21 e14 s21=>?_;subst e14;refine eG (by kernel_rfl) ?_;refine ui (i:=5) (sp_table_By a2 _ 2) rfl s21 fun r15 h22 s22=>?_;have e15:((r15.len:Int) == 1) = true:=by
  rw [(bY (j:=0) s22 rfl).1]
  kernel_rfl
 refine eG e15 ?_;refine cc (i:=1) (sp_pool_Bits a7 _) rfl s22 fun r16 h23 e16 s23=>?_;subst e16;refine ba (by kernel_rfl) (ce (l:=[_,_,_,_,_,_,_,_]) s23)
theorem sp_Begun2:Sp prog mb [] aD [(etB ET EF)] (fun r=>pa_ (r = true) [(etB ET EF)]):=by
 intro h st;refine xu ?_;unfold qk;exact cc (i:=0) sp_begun2 rfl st fun r h' hr s=>ba hr s
end
section
open Go Mb
def pu (K:kT Bool):hT:=cl prog oE [(.agg (aK.C (⟨1,2,2⟩:aK)).toArray)] eA fun r23=>cl prog xO [(.int .i64 2)] te fun r24=>cl prog oI [(.int .i64 3)] jg fun r25=>cl prog jd [] gY fun r26=>cl prog lV [] iT fun r27=>cl prog wG [(.int .i64 2)] uo fun r28=>br (((((r23.isNone || r24.isNone) || r25.isNone) || r26.isNone) || r27.isNone) || r28.isNone) ( K false) ( cl prog dP [(pv r23),(.int .i64 0),(.agg (al.C (⟨1,1,0,0,0⟩:al)).toArray)] bq fun r54=>cl prog dP [(pv r23),(.int .i64 0),(.agg (al.C (⟨6,2,1,3,0⟩:al)).toArray)] bq fun r60=>cl prog dP [(pv r23),(.int .i64 0),(.agg (al.C (⟨21,2,5,77,0⟩:al)).toArray)] bq fun r65=>cl prog dP [(pv r23),(.int .i64 0),(.agg (al.C (⟨20,2,5,0,0⟩:al)).toArray)] bq fun r69=>cl prog jY [(pv r24),(.int .i64 0),(.int .i64 1),(.int .i64 1)] bn fun r73=>cl prog iO [(pv r24),(.int .i64 0),(.int .i64 1),(.int .i64 1),(.int .i64 3),(.int .i64 1)] bn fun r75=>cl prog js [(pv r25),(.int .i64 0)] bP fun r78=>cl prog kG [(pv r25),(.int .i64 1),(.int .u64 r78.1)] aD fun r83=>cl prog eR [(pv r27),(.int .i64 2),(.agg (an.C (⟨1,1,1⟩:an)).toArray)] bn fun r86=>cl prog n_user_Do [(pv r26),(pv r27),(pv r28),(.int .i64 0),(.agg (al.C (⟨20,2,3,0,0⟩:al)).toArray)] fj fun r92=>cl prog nY [(pv r23),(.int .i64 0),(.agg (al.C (⟨7,5,0,0,0⟩:al)).toArray)] iW fun r97=>cl prog mb [] aD fun r98=>br ((((((r98 && r54.2) && (r54.1.fSa == 0)) && (r60.1.fSa == 0)) && (r69.1.fVal == 77)) && (r73 == 0)) && (r75 == 0)) ( cl prog lK [(pv r24),(.int .i64 0),(.int .i64 1)] dc fun r127=>br (((((r127.len:Int) == 1) && (r78.1 == 1)) && r78.2) && r83) ( cl prog jK [(pv r25),(.int .u64 1)] aD fun r143=>br (!r143) ( cl prog jr [(pv r25),(.int .u64 1)] aU fun r148=>br ((((((r148.len:Int) == 1) && (r86 == 0)) && (r92.1.fSa == 0)) && (r92.2.fFa == 1)) && (nD 3 3 4)) ( cl prog kW [(.int .i64 3)] iW fun r171=>cl prog oH [r97,r171] aD fun r172=>br r172 ( cl prog ni [(pv r23)] aU fun r176=>K ((r176.len:Int) == 1)) ( K false)) ( K false)) ( K false)) ( K false)) ( K false))
theorem wh {K:kT Bool} {h:Hp} (H:pu K h):cl prog li [] aD K h:=z_i func61 p p fun _=>O<|U p<|O<|J (bg p<|build_24_0_1_2 1 2 2)<|aa<|G H en_56 fun r23 _ H1=>aa<|G H1 en_94 fun r24 _ H2=>aa<|G H2 en_58 fun r25 _ H3=>J (ar p)<|J (ar p)<|U p<|O<|aa<|G H3 en_59 fun r26 _ H4=>aa<|G H4 en_73 fun r27 _ H5=>aa<|G H5 en_92 fun r28 _ H6=>J (ar p)<|J (ar p)<|U p<|ai<|O<|M p<|J (cy underlying72 p)<|M p<|W p p (aL _) (fun g7=>wv<|ag p)<|W p p (aL _) (fun g8=>wv<|cy underlying134<|aC p g8)<|J (dy p p)<|M p<|W p p (aL _) (fun g9=>wv<|ag p)<|W p p (aL _) (fun g10=>wv<|cy underlying75<|aC p g10)<|J (dy p p)<|M p<|W p p (aL _) (fun g11=>wv<|ag p)<|W p p (aL _) (fun g12=>wv<|cy underlying99<|aC p g12)<|J (dy p p)<|M p<|W p p (aL _) (fun g13=>wv<|ag p)<|W p p (aL _) (fun g14=>wv<|cy underlying121<|aC p g14)<|J (dy p p)<|M p<|W p p (aL _) (fun g15=>wv<|ag p)<|W p p (aL _) (fun g16=>wv<|cy underlying131<|aC p g16)<|J (dy p p)<|ad<|av p H6 (fun k17 H18=>O<|U p<|ah<|F ⟨false,p,H18⟩) fun k17 H18=>ak<|O<|M p<|J (bg p<|mU 1 1)<|aa<|G H18 en_52 fun r54 _ H19=>M p<|J (aj p p)<|J (aj p p)<|aa<|aT (l:=ac.C (⟨0,0⟩:ac)) dv p p fun b7=>aa<|aV (k:=0) (vs:=ac.C r54.1) bR p p p p p p p<|U p<|O<|M p<|J (bg p<|kh 6 2 1 3)<|aa<|G H19 en_52 fun r60 _ H20=>M p<|J (aj p p)<|J (aj p p)<|aa<|aT (l:=ac.C (⟨0,0⟩:ac)) dv p p fun b9=>aa<|aV (k:=0) (vs:=ac.C r60.1) bR p p p p p p p<|U p<|O<|M p<|J (bg p<|kh 21 2 5 77)<|aa<|G H20 en_52 fun r65 _ H21=>ad<|O<|M p<|J (bg p<|uk 20 2 5)<|aa<|G H21 en_52 fun r69 _ H22=>M p<|J (aj p p)<|J (aj p p)<|aa<|aT (l:=ac.C (⟨0,0⟩:ac)) dv p p fun b11=>aa<|aV (k:=0) (vs:=ac.C r69.1) bR p p p p p p p<|U p<|O<|M p<|aa<|G H22 en_99 fun r73 _ H23=>M p<|aa<|G H23 en_100 fun r75 _ H24=>J (ar p)<|U p<|O<|M p<|aa<|G H24 en_49 fun r78 _ H25=>M p<|J (aj p p)<|J (aj p p)<|J (ar p)<|U p<|O<|M p<|M p<|aa<|G H25 en_43 fun r83 _ H26=>U p<|O<|M p<|J (bg p<|nQ 1 1 1)<|aa<|G H26 en_74 fun r86 _ H27=>U p<|O<|M p<|M p<|M p<|J (bg p<|uk 20 2 3)<|aa<|G H27 en_101 fun r92 _ H28=>M p<|J (aj p p)<|J (aj p p)<|aa<|aT (l:=ac.C (⟨0,0⟩:ac)) dv p p fun b19=>aa<|aT (l:=ao.C (⟨0,0,0,0⟩:ao)) lD p p fun b20=>aa<|aV (k:=1) (vs:=ac.C r92.1) bR p p p p p p p<|aa<|aV (k:=0) (vs:=ao.C r92.2) gb p p p p p p p<|ad<|O<|M p<|J (bg p<|mU 7 5)<|aa<|G H28 en_102 fun r97 _ H29=>U p<|O<|aa<|G H29 en_103 fun r98 _ H30=>M p<|W p p (aA _) (fun g31=>wv<|ag p)<|J (bN p p)<|M p<|W p p (aA _) (fun g32=>wv<|ae kS p)<|W p p (aA _) (fun g33=>cv<|bc (k:=4) py (aC p g33) p p)<|W p p (aA _) (fun g34=>wv<|bM (aC p g34) p)<|J (bN p p)<|M p<|W p p (aA _) (fun g35=>wv<|ae kS p)<|W p p (aA _) (fun g36=>cv<|bc (k:=3) py (aC p g36) p p)<|W p p (aA _) (fun g37=>wv<|bM (aC p g37) p)<|J (bN p p)<|M p<|W p p (aA _) (fun g38=>wv<|ae fld_36_1 p)<|W p p (aA _) (fun g39=>cv<|bc (k:=2) cC (aC p g39) p p)<|W p p (aA _) (fun g40=>wv<|bM (aC p g40) p)<|J (bN p p)<|M p<|W p p (aA _) (fun g41=>wv<|ag p)<|W p p (aA _) (fun g42=>wv<|bM (aC p g42) p)<|J (bN p p)<|M p<|W p p (aA _) (fun g43=>wv<|ag p)<|W p p (aA _) (fun g44=>wv<|bM (aC p g44) p)<|J (bN p p)<|M p<|W p p (aA _) (fun g45=>wv<|ag p)<|bS H30 (fun k47 H48=>z_O (Z k47)<|gz H48 en_104 (aZ (aC p k47)<|aZ p<|aZ p bX) p fun r127 _ H49=>z_O (Z k47)<|z_p (dh p underlying161 p)<|z_O (Z k47)<|z_p (bM p p)<|J (aI p k47 p)<|M p<|W p p (aA _) (fun g50=>wv<|ag p)<|W p p (aA _) (fun g51=>wv<|bM (aC p g51) p)<|J (bN p p)<|M p<|W p p (aA _) (fun g52=>wv<|ag p)<|J (bN p p)<|M p<|W p p (aA _) (fun g53=>wv<|ag p)<|J (bN p p)<|M p<|W p p (aA _) (fun g54=>wv<|ag p)<|bS H49 (fun k56 H57=>z_O (Z k56)<|gz H57 en_51 (aZ (aC p k56)<|aZ p bX) p fun r143 _ H58=>z_O (Z k56)<|z_p (cw p)<|J (aI p k56 p)<|M p<|W p p (aA _) (fun g59=>wv<|ag p)<|bS H58 (fun k61 H62=>z_O (Z k61)<|gz H62 en_80 (aZ (aC p k61)<|aZ p bX) p fun r148 _ H63=>z_O (Z k61)<|z_p (dh p underlying27 p)<|z_O (Z k61)<|z_p (bM p p)<|J (aI p k61 p)<|M p<|W p p (aA _) (fun g64=>wv<|ag p)<|W p p (aA _) (fun g65=>wv<|bM (aC p g65) p)<|J (bN p p)<|M p<|W p p (aA _) (fun g66=>wv<|ae kS p)<|W p p (aA _) (fun g67=>cv<|bc (k:=1) py (aC p g67) p p)<|W p p (aA _) (fun g68=>wv<|bM (aC p g68) p)<|J (bN p p)<|M p<|W p p (aA _) (fun g69=>wv<|ae mt p)<|W p p (aA _) (fun g70=>cv<|bc (k:=0) aR (aC p g70) p p)<|W p p (aA _) (fun g71=>wv<|bM (aC p g71) p)<|J (bN p p)<|M p<|dk (vs:=[(.int .i64 3),(.int .u64 3),(.int .u64 4)]) p p p (aA _) (fun g72=>bu<|vV 3 3 4 _) en_105 (fun g72=>p) p<|J (bN p p)<|M p<|W p p (aA _) (fun g73=>wv<|ag p)<|bS H63 (fun k75 H76=>z_O (Z k75)<|G H76 ye fun r171 _ H77=>z_O (Z k75)<|gz H77 en_106 (aZ (aC p k75)<|aZ p bX) p fun r172 _ H78=>J (aI p k75 p)<|M p<|W p p (aA _) (fun g79=>wv<|ag p)<|bS H78 (fun k81 H82=>z_O (Z k81)<|gz H82 en_108 (aZ (aC p k81) bX) p fun r176 _ H83=>z_O (Z k81)<|z_p (dh p underlying27 p)<|z_O (Z k81)<|z_p (bM p p)<|J (aI p k81 p)<|U p<|ah<|F ⟨((r176.len:Int) == 1),p,H83⟩) fun k81 H82=>Y (ax k81)<|Y (ax k81)<|Y (ax k81)<|J (ap p k81 p)<|U p<|ah<|F ⟨false,p,H82⟩) fun k75 H76=>Y (ax k75)<|Y (ax k75)<|J (ap p k75 p)<|M p<|Y p<|Y p<|Y p<|Y p<|J (ap p p p)<|U p<|ah<|F ⟨false,p,H76⟩) fun k61 H62=>Y (ax k61)<|Y (ax k61)<|Y (ax k61)<|J (ap p k61 p)<|M p<|Y p<|Y p<|J (ap p p p)<|M p<|Y p<|Y p<|Y p<|J (ap p p p)<|M p<|Y p<|Y p<|Y p<|J (ap p p p)<|M p<|Y p<|J (ap p p p)<|M p<|Y p<|Y p<|Y p<|J (ap p p p)<|M p<|Y p<|Y p<|Y p<|Y p<|J (ap p p p)<|U p<|ah<|F ⟨false,p,H62⟩) fun k56 H57=>Y (ax k56)<|Y (ax k56)<|J (ap p k56 p)<|M p<|Y p<|Y p<|Y p<|Y p<|J (ap p p p)<|M p<|Y p<|Y p<|J (ap p p p)<|M p<|Y p<|Y p<|Y p<|J (ap p p p)<|M p<|Y p<|Y p<|Y p<|J (ap p p p)<|M p<|Y p<|J (ap p p p)<|M p<|Y p<|Y p<|Y p<|J (ap p p p)<|M p<|Y p<|Y p<|Y p<|Y p<|J (ap p p p)<|U p<|ah<|F ⟨false,p,H57⟩) fun k47 H48=>Y (ax k47)<|Y (ax k47)<|Y (ax k47)<|J (ap p k47 p)<|M p<|Y p<|Y p<|J (ap p p p)<|M p<|Y p<|J (ap p p p)<|M p<|Y p<|J (ap p p p)<|M p<|Y p<|Y p<|Y p<|J (ap p p p)<|M p<|Y p<|Y p<|Y p<|Y p<|J (ap p p p)<|M p<|Y p<|Y p<|J (ap p p p)<|M p<|Y p<|Y p<|Y p<|J (ap p p p)<|M p<|Y p<|Y p<|Y p<|J (ap p p p)<|M p<|Y p<|J (ap p p p)<|M p<|Y p<|Y p<|Y p<|J (ap p p p)<|M p<|Y p<|Y p<|Y p<|Y p<|J (ap p p p)<|U p<|ah<|F ⟨false,p,H48⟩
def pw (K:kT Bool):hT:=cl prog li [] aD fun r1=>K r1
theorem wi {K:kT Bool} {h:Hp} (H:pw K h):cl prog lj [] aD K h:=z_i func29 p p fun _=>O<|U p<|O<|aa<|G H en_61 fun r1 _ H1=>U p<|ah<|F ⟨r1,p,H1⟩
end
section
open Go Mb
variable {ET:Nat} {EF:Nat × Nat}
section
variable {l:List As} {h:Hp} {x:Ptr}
theorem plain_nn {k:PK} (s:ay (bB x k::l) h):x.isNone = false:=nn_of (fun _ e=>by rw [e.1]; rfl) s
theorem tree_nn {k:fAa.T} (s:ay (cO x k::l) h):x.isNone = false:=nn_of (fun _ e=>by rw [e.1]; rfl) s
theorem epochs_nn {k:List Int × List Int} (s:ay (fH x k::l) h):x.isNone = false:=nn_of (fun _ e=>by rw [e.1]; rfl) s
end
theorem sp_plain_Err (x:Ptr) (k:PK) (e:Int) (c:al) (h1:(PK.do_ k e c).1.2 = true) (h2:(PK.do_ k e c).1.1.fSa ≠ 0):Sp prog nY [pv x,.int .i64 e,.agg c.C.toArray] iW [(etB ET EF),bB x k]
  (fun r=>ex fun b:Nat × Nat=>pa_ (r = dK b.1) [trB b.1 ⟨(PK.do_ k e c).1.1.fSa,e,c,dK b.2⟩,(etB ET EF),bB x k]):=by
 intro h st;have hn:=plain_nn (bd [1] st rfl);refine sim_plain_Kernel_Err _ _ _ ?_;unfold so;refine dN hn ?_;refine ui (i:=1) (vx x k) rfl st fun y g1 s1=>?_;refine cc (i:=0) (ko y k e c) rfl s1 fun r g2 hr s2=>?_;subst hr;refine dN (by rw [h1]; rfl) ?_;refine cW [] (rest:=[_,_,_]) (sp_Of _ h2) s2 rfl fun r g3 s3=>?_;obtain ⟨b,x3⟩:=vo s3;obtain ⟨rfl,y3⟩:=bA.1 x3;refine cW [2,0] (rest:=[_,_]) (sp_In e c b _) y3 rfl fun r g4 s4=>?_;obtain ⟨d,x4⟩:=vo s4;obtain ⟨rfl,y4⟩:=bA.1 x4;refine ⟨(d,b),ba rfl (ce (l:=[_,_]) (bd [2,2] y4 rfl))⟩
theorem sp_begun11:Sp prog li [] aD [(etB ET EF)] (fun r=>pa_ (r = true) [(etB ET EF)]):=by
 intro h st;refine wh ?_;unfold pu;refine nl (sN ⟨1,2,2⟩ (by decide)) st fun a1 h1 s1=>?_;refine nl (sp_caps_New 2 (by decide) (by decide)) s1 fun a2 h2 s2=>?_;refine nl (sP 3 (by decide) (by decide)) s2 fun a3 h3 s3=>?_;refine nl xg s3 fun a4 h4 s4=>?_;refine nl oY s4 fun a5 h5 s5=>?_;refine nl (sp_mem_New 2 (by decide) (by decide)) s5 fun a6 h6 s6=>?_;have n1:=plain_nn s1;have n2:=tree_nn s2;have n3:=epochs_nn s3;have n4:=tlb_nn s4;have n5:=table_nn s5;have n6:=mem_nn s6;rw [n1,n2,n3,n4,n5,n6];refine dN rfl ?_;refine cc (i:=5) (ko a1 _ 0 ⟨1,1,0,0,0⟩) rfl s6 fun r1 h7 e1 s7=>?_;refine cc (i:=5) (ko a1 _ 0 ⟨6,2,1,3,0⟩) rfl s7 fun r2 h8 e2 s8=>?_;refine cc (i:=5) (ko a1 _ 0 ⟨21,2,5,77,0⟩) rfl s8 fun r3 h9 e3 s9=>?_;refine cc (i:=5) (ko a1 _ 0 ⟨20,2,5,0,0⟩) rfl s9 fun r4 h10 e4 s10=>?_;refine cc (i:=4) (xl a2 _ 0 1 1) rfl s10 fun r5 h11 e5 s11=>?_;refine cc (i:=4) (tw a2 _ 0 1 1 3 1) rfl s11 fun r6 h12 e6 s12=>?_;refine cc (i:=3) (sp_epoch_Begin a3 _ 0 (by decide)) rfl s12 fun r7 h13 e7 s13=>?_;subst e7;refine cc (i:=3) (sp_epoch_Ack a3 _ 1 _) rfl s13 fun r8 h14 e8 s14=>?_;refine cc (i:=1) (kM a5 _ 2 ⟨1,1,1⟩) rfl s14 fun r9 h15 e9 s15=>?_;refine cW [2,1,0] (rest:=[_,_,_,_]) (sp_user_Do a4 a5 a6 _ _ _ 0 ⟨20,2,3,0,0⟩) s15 rfl fun r10 h16 x16=>?_;obtain ⟨e10,s16⟩:=bA.1 x16;subst e1 e2 e3 e4 e5 e6 e8 e9 e10;refine cW [6,5] (rest:=[_,_,_,_,_]) (sp_plain_Err a1 _ 0 ⟨7,5,0,0,0⟩ (by kernel_rfl) (by decide)) s16 rfl fun r11 h17 x17=>?_;obtain ⟨⟨b,b'⟩,z17⟩:=vo x17;obtain ⟨rfl,s17⟩:=bA.1 z17;refine cc (i:=1) sp_Begun2 rfl s17 fun r12 h18 e12 s18=>?_;subst e12;refine eG (by kernel_rfl) ?_;refine ui (i:=7) (sp_caps_Below a2 _ 0 1) rfl s18 fun r13 h19 s19=>?_;have e13:((r13.len:Int) == 1) = true:=by
  rw [(bY (j:=0) s19 rfl).1]
  kernel_rfl
 rw [e13];refine eG (by kernel_rfl) ?_;refine cc (i:=7) (sp_epoch_Done a3 _ 1) rfl s19 fun r14 h20 e14 s20=>?_;subst e14;refine eG (by kernel_rfl) ?_;refine ui (i:=7) (sp_epoch_Waits a3 _ 1) rfl s20 fun r15 h21 s21=>?_;have e15:((r15.len:Int) == 1) = true:=by
  rw [(bY (j:=0) s21 rfl).1]
  kernel_rfl
 rw [e15];refine eG (by kernel_rfl) ?_;refine cW [] (rest:=[_,_,_,_,_,_,_,_,_,_]) (sp_Of 3 (by decide)) s21 rfl fun r16 h22 x22=>?_;obtain ⟨d,z22⟩:=vo x22;obtain ⟨rfl,s22⟩:=bA.1 z22;refine cW [3,0] (rest:=[_,_,_,_,_,_,_,_,_]) (sp_Is1 b d _ tr3 (by kernel_rfl) (.inr ⟨b',by kernel_rfl⟩)) s22 rfl fun r17 h23 x23=>?_;obtain ⟨rfl,s23⟩:=bA.1 x23;refine eG rfl ?_;refine ui (i:=5) (sp_plain_Free a1 _) rfl s23 fun r18 h24 s24=>?_;have e18:((r18.len:Int) == 1) = true:=by
  rw [(bY (j:=0) s24 rfl).1]
  kernel_rfl
 exact ba e18 (ce (l:=[_,_,_,_,_,_,_,_,_,_,_]) (bd [0,0,0,0,0,1,1,1,1,1,1] s24 rfl))
theorem sp_Begun11:Sp prog lj [] aD [(etB ET EF)] (fun r=>pa_ (r = true) [(etB ET EF)]):=by
 intro h st;refine wi ?_;unfold pw;exact cc (i:=0) sp_begun11 rfl st fun r h' hr s=>ba hr s
end
section
open Go Mb
theorem calls_nil:∀ (n:Nat) {l:List As} {h:Hp},ay l h->ay (all ja (replicate n (none:Ptr)) (replicate n (none:Option KC))::l) h
 | 0,_,_,s=>all_nil s
 | n + 1,l,h,s=>by
  have s1:=star_cons (A:=ja none none) (fun _=>rfl) (calls_nil n s);rw [List.replicate_succ,List.replicate_succ];obtain ⟨h1,h2,d,e,a,h3,h4,d2,e2,b,s'⟩:=s1;subst e2;obtain ⟨d3,d4⟩:=Dj.of_un_right d;exact ⟨un h1 h3,h4,Dj.un_left d4 d2,by rw [e,nq],⟨h1,h3,d3,rfl,a,b⟩,s'⟩
def newI (s:gX) (b n:Nat) (pp pm pe:Ptr) (cs:Sl) (i:Int) (h:Hp):Prop:=∃ (j:Nat) (ts:Sl) (tp:List Ptr),i = j/\j <= n/\tp.length = j/\ay [blk b cn [pv pp,.int .i64 s.fIa,sv ts,pv pm,pv pe,sv cs,sv (⟨none,0,0,none⟩:Sl),.int .i64 0],bB pp (PK.new s),vQ tu ts tp,all fX tp (replicate j tlb0),jF pm (replicate n []),fH pe ([],replicate n 0),vQ fM cs (replicate n none),all ja (replicate n none) (replicate n none),vE (⟨none,0,0,none⟩:Sl) []] h
theorem new_round {s:gX} {b n:Nat} {pp pm pe:Ptr} {cs:Sl} (hn8:n <= 8) {i:Int} {h:Hp} (H:newI s b n pp pm pe cs i h) (hi:i < n) :
  (mV (ld (b,2) cS fun x31=>cl prog jd [] gY fun r32=>hpv prog (Instr.buildSlice bV 1 #[(0,(pv r32))]) eD fun (v33:Sl)=>hpv prog (Builtin.append_ #[bV,bV] bV #[(sv x31),(sv v33)]) eD fun (v34:Sl)=>Mb.st (b,2) [sv v34] fun h'=>newI s b n pp pm pe cs (i64.wrap (i + 1)) h'/\n - (i64.wrap (i + 1)).toNat < n - i.toNat)
  (cl prog jd [] gY fun r32=>ld (b,2) cS fun x31=>hpv prog (Instr.buildSlice bV 1 #[(0,(pv r32))]) eD fun (v33:Sl)=>hpv prog (Builtin.append_ #[bV,bV] bV #[(sv x31),(sv v33)]) eD fun (v34:Sl)=>Mb.st (b,2) [sv v34] fun h'=>newI s b n pp pm pe cs (i64.wrap (i + 1)) h'/\n - (i64.wrap (i + 1)).toNat < n - i.toNat)) h:=by
 obtain ⟨j,ts,tp,rfl,hj,htp,s6⟩:=H;have hlt:j < n:=by omega
 have hw:i64.wrap ((j:Int) + 1) = ((j + 1:Nat):Int):=by rw [bp (by omega) (by omega)]; rfl
 rw [hw];have fin:∀ (r:Ptr) (v:Sl) (h:Hp),ay [fX r tlb0,blk b cn [pv pp,.int .i64 s.fIa,sv ts,pv pm,pv pe,sv cs,sv (⟨none,0,0,none⟩:Sl),.int .i64 0],bB pp (PK.new s),vQ tu v (tp++[r]),all fX tp (replicate j tlb0),jF pm (replicate n []),fH pe ([],replicate n 0),vQ fM cs (replicate n none),all ja (replicate n none) (replicate n none),vE (⟨none,0,0,none⟩:Sl) []] h ->
   Mb.st (b,2) [sv v] (fun h'=>newI s b n pp pm pe cs ((j + 1:Nat):Int) h'/\n - ((j + 1:Nat):Int).toNat < n - (j:Int).toNat) h:=by
  intro r v h s7;refine vv (i:=1) s7 rfl (Nat.le_of_ble_eq_true rfl) fun h8 s8=>?_;refine ⟨⟨j + 1,v,tp++[r],rfl,hlt,by simp [htp],?_⟩,by simp; omega⟩;have s9:=all_push (by simp [htp]) (bd [0,3] s8 rfl);have e:replicate j tlb0++[tlb0] = replicate (j + 1) tlb0:=List.replicate_succ'.symm;rw [e] at s9;exact bd [1,1,1,0] s9 rfl
 refine ⟨?_,?_⟩
 ·refine bt ts s6 (i:=0) rfl rfl rfl ?_;refine nl xg s6 fun r h7 s7=>?_;refine kZ (τ:=Ptr) (i:=3) (enc:=cP) (val:=fun x=>pv x) el_SPtlb_Tlb iq cP_one (fun _=>rfl) (by omega) rfl rfl s7 rfl (by omega) (by omega) fun v h8 s8=>?_;exact fin r v h8 s8
 ·refine nl xg s6 fun r h7 s7=>?_;refine bt ts s7 (i:=1) rfl rfl rfl ?_;refine kZ (τ:=Ptr) (i:=3) (enc:=cP) (val:=fun x=>pv x) el_SPtlb_Tlb iq cP_one (fun _=>rfl) (by omega) rfl rfl s7 rfl (by omega) (by omega) fun v h8 s8=>?_;exact fin r v h8 s8
theorem new_start {s:gX} {b n:Nat} {pp pm pe:Ptr} {cs:Sl} {h:Hp}
  (st:ay [blk b cn (fY.C (⟨pp,s.fIa,(⟨none,0,0,none⟩:Sl),pm,pe,cs,(⟨none,0,0,none⟩:Sl),0⟩:fY)),bB pp (PK.new s),jF pm (replicate n []),fH pe ([],replicate n 0),vQ fM cs (replicate n none)] h):newI s b n pp pm pe cs 0 h:=by
 have s1:=fu (τ:=bC) (T:=t_api_Event) (m:=16) (enc:=aq.C) (calls_nil n (fu (τ:=Ptr) (T:=tu) (m:=1) (enc:=cP) (all_nil (A:=fX) st)));exact ⟨0,⟨none,0,0,none⟩,[],rfl,zero_le _,rfl,bd [4,4,2,2,2,2,2,1] s1 rfl⟩
theorem new_end {s:gX} (hs:PK.sized s = true) {b n:Nat} (hn:s.fOa = n) {pp pm pe:Ptr} {cs:Sl} {h:Hp} (H:newI s b n pp pm pe cs n h):ay [dM (some (b,0)) (KK.new s)] h:=by
 obtain ⟨j,ts,tp,hj,hj2,htp,s6⟩:=H;have:j = n:=by omega
 subst this;have ok:=kok_new hs;have e:KK.new s = ⟨PK.new s,replicate j tlb0,replicate j [],([],replicate j 0),replicate j none,[],0⟩:=by unfold KK.new; rw [hn]; rfl
 rw [e] at ok ⊢;exact rc (z:=⟨b,pp,ts,tp,pm,pe,cs,replicate j none,⟨none,0,0,none⟩⟩) ⟨by simpa using htp,by simp⟩ ok s6
theorem sp_kern_New (s:gX) (hs:PK.sized s = true):Sp prog n_kern_New [.agg s.C.toArray] yg [] (fun r=>ay [dM r (KK.new s)]):=by
 intro h st;have hz:=jR.1 hs;obtain ⟨n,hn⟩:=Int.eq_ofNat_of_zero_le (show 0 <= s.fOa by omega);have hn8:n <= 8:=by omega
 refine sim_kern_New _ ?_;unfold sh_kern_New;refine nl (sN s hs) st fun pp h1 s1=>?_;have hpp:pp.isNone = false:=by
  obtain ⟨_,h2,_⟩:=ge s1; rw [h2]; rfl
 refine dN hpp ?_;have mk:∀ {l:List As} {h:Hp} {K:kT Sl},ay l h->(∀ v h',ay (vQ fM v (replicate n none)::l) h'->K v h')->hpv prog (Instr.makeSlice ny (.int .i64 s.fOa) (.int .i64 s.fOa)) rf K h:=by
  intro l h K s2 k;rw [hn];exact oJ (τ:=Ptr) (x0:=none) (enc:=cP) (n:=n) (T:=fM) (m:=1) el_SPkern_call rfl s2 (by omega) (by omega) k
 have em:s.fOa.toNat = n:=by omega
 refine ⟨?_,?_⟩
 ·refine nl (sp_mail_New s.fOa (by omega) (by omega)) s1 fun pm h2 s2=>?_;refine ⟨?_,?_⟩
  ·refine nl (sP s.fOa (by omega) (by omega)) s2 fun pe h3 s3=>?_;rw [em] at s3;refine mk s3 fun cs h4 s4=>?_;refine pC s4 fun b h5 s5=>?_;refine Lp.intro (fun (i:Int) h=>newI s b n pp pm pe cs i h) (fun (i:Int) _=>n - i.toNat) (new_start (bd [0,4,3,2,1] s5 rfl)) ?_;intro i h H;unfold kern_New_l1;refine aX (fun d=>new_round hn8 H (by have:=of_decide_eq_true d; omega)) (fun d=>?_);have:i = n:=by obtain ⟨j,_,_,e,hj,_⟩:=H; have:=of_decide_eq_false d; omega
   subst this;exact new_end hs hn H
  ·refine mk s2 fun cs h3 s3=>?_;refine nl (sP s.fOa (by omega) (by omega)) s3 fun pe h4 s4=>?_;rw [em] at s4;refine pC s4 fun b h5 s5=>?_;refine Lp.intro (fun (i:Int) h=>newI s b n pp pm pe cs i h) (fun (i:Int) _=>n - i.toNat) (new_start (bd [0,3,2,0,0] s5 rfl)) ?_;intro i h H;unfold kern_New_l2;refine aX (fun d=>new_round hn8 H (by have:=of_decide_eq_true d; omega)) (fun d=>?_);have:i = n:=by obtain ⟨j,_,_,e,hj,_⟩:=H; have:=of_decide_eq_false d; omega
   subst this;exact new_end hs hn H
 ·refine mk s1 fun cs h2 s2=>?_;refine nl (sp_mail_New s.fOa (by omega) (by omega)) s2 fun pm h3 s3=>?_;refine nl (sP s.fOa (by omega) (by omega)) s3 fun pe h4 s4=>?_;rw [em] at s4;refine pC s4 fun b h5 s5=>?_;refine Lp.intro (fun (i:Int) h=>newI s b n pp pm pe cs i h) (fun (i:Int) _=>n - i.toNat) (new_start (bd [0,3,1,0,0] s5 rfl)) ?_;intro i h H;unfold kern_New_l3;refine aX (fun d=>new_round hn8 H (by have:=of_decide_eq_true d; omega)) (fun d=>?_);have:i = n:=by obtain ⟨j,_,_,e,hj,_⟩:=H; have:=of_decide_eq_false d; omega
  subst this;exact new_end hs hn H
end
section
open Go Mb
def ud (a0:Int) (Rec17:kT (Sl × Int)) (s16:Sl × Int) (x32:Int) (Rec26:kT (Sl × Int)) (s25:Sl × Int):hT:=br (decide (s25.2 < a0)) ( hpv prog (Instr.buildSlice oy 1 #[(0,(.agg (eH.C (⟨x32,s25.2,0,(⟨0,0,0,0,0⟩:al),0,0⟩:eH)).toArray))]) oU fun (v41:Sl)=>hpv prog (Builtin.append_ #[oy,oy] oy #[(sv s25.1),(sv v41)]) oU fun (v42:Sl)=>Rec26 (v42,(i64.wrap (s25.2 + 1)))) ( Rec17 (s25.1,(i64.wrap (s16.2 + 1))))
def ue (a0:Int) (Rec11:kT (Sl × Int)) (s10:Sl × Int) (v27:Sl) (Rec17:kT (Sl × Int)) (s16:Sl × Int):hT:=br (decide (s16.2 < (v27.len:Int))) ( ix v27 s16.2 fun q31=>ld (q31.1,q31.2 + Int.toNat s16.2 * 1) (cI .i64) fun x32=>Lp (ud a0 Rec17 s16 x32) (s16.1,0)) ( Rec11 (s16.1,(i64.wrap (s10.2 + 1))))
def uf (a0:Int) (a1:Int) (K:kT Sl) (Rec11:kT (Sl × Int)) (s10:Sl × Int):hT:=br (decide (s10.2 < a1)) ( hpv prog (Instr.buildSlice az 2 #[(0,(.int .i64 3)),(1,(.int .i64 2))]) aU fun (v27:Sl)=>Lp (ue a0 Rec11 s10 v27) (s10.1,0)) ( K s10.1)
def sh_fair_Rounds (a0:Int) (a1:Int) (K:kT Sl):hT:=br ((((decide (a0 < 1)) || (decide (a0 > 8))) || (decide (a1 < 0))) || (decide (a1 > 500))) ( K (⟨none,0,0,none⟩:Sl)) ( hpv prog (Instr.buildSlice oy 0 #[]) oU fun (v23:Sl)=>Lp (uf a0 a1 K) (v23,0))
theorem sim_fair_Rounds (a0:Int) (a1:Int) {K:kT Sl} {h:Hp} (H:sh_fair_Rounds a0 a1 K h):cl prog vN [(.int .i64 a0),(.int .i64 a1)] oU K h:=z_i func28 p p fun _=>O<|U p<|ai<|O<|M p<|J (bZ p p)<|M p<|W p p (aL _) (fun g1=>wv<|ag p)<|W p p (aL _) (fun g2=>wv<|hG (aC p g2) p)<|J (dy p p)<|M p<|W p p (aL _) (fun g3=>wv<|ag p)<|W p p (aL _) (fun g4=>wv<|bZ (aC p g4) p)<|J (dy p p)<|M p<|W p p (aL _) (fun g5=>wv<|ag p)<|W p p (aL _) (fun g6=>wv<|hG (aC p g6) p)<|J (dy p p)<|ad<|av p H (fun k7 H8=>O<|U p<|ah<|F ⟨(⟨none,0,0,none⟩:Sl),p,H8⟩) fun k7 H8=>ak<|O<|aa<|aF H8 (bh (vs:=[]) p) p fun v23 _ H9=>U p<|ai<|O<|M p<|M p<|ad<|aw<|bv (step:=uf a0 a1 K) (fun s10=>[(0,(.int .i64 a0)),(5,(sv s10.1)),(24,(.int .i64 a1)),(25,(.int .i64 s10.2))]) (fun s10=>[]) H9 (.cons p<|.cons p<|.cons p<|.cons p<|.nil _) .slnil fun Rec11 s10 _ H12=>O<|J (bZ p p)<|ad<|ai<|av p H12 (fun k13 H14=>ak<|ai<|aw<|O<|aa<|aF H14 (bh (vs:=[(.int .i64 3),(.int .i64 2)]) p) p fun v27 _ H15=>J (dh p underlying27 p)<|M p<|ad<|aw<|bv (step:=ue a0 Rec11 s10 v27) (fun s16=>[(0,(.int .i64 a0)),(5,(sv s16.1)),(24,(.int .i64 a1)),(25,(.int .i64 s10.2)),(27,(sv v27)),(28,(.int .i64 (v27.len:Int))),(29,(.int .i64 s16.2))]) (fun s16=>[]) H15 (.cons p<|.cons p<|.cons p<|.cons p<|.cons p<|.cons p<|.cons p<|.nil _) .slnil fun Rec17 s16 _ H18=>O<|J (bZ p p)<|ad<|ai<|av p H18 (fun k19 H20=>ak<|ai<|aw<|O<|cm H20 fun q31 e21 h22 H23=>J (aW dz (aJ p<|aM e21) p h22)<|aa<|aY H23 aR p (fun _=>p) p fun x32 H24=>U p<|O<|M p<|M p<|ad<|aw<|bv (step:=ud a0 Rec17 s16 x32) (fun s25=>[(0,(.int .i64 a0)),(5,(sv s25.1)),(7,(.int .i64 x32)),(24,(.int .i64 a1)),(25,(.int .i64 s10.2)),(27,(sv v27)),(28,(.int .i64 (v27.len:Int))),(29,(.int .i64 s16.2)),(33,(.int .i64 a0)),(34,(.int .i64 s25.2))]) (fun s25=>[]) H24 (.cons p<|.cons p<|.cons p<|.cons p<|.cons p<|.cons p<|.cons p<|.cons p<|.cons p<|.cons p<|.nil _) .slnil fun Rec26 s25 _ H27=>O<|J (bZ p p)<|ad<|ai<|av p H27 (fun k28 H29=>ak<|ai<|aw<|O<|M p<|U p<|am<|M p<|M p<|M p<|J (bg p<|build_103_0_1 x32 s25.2)<|aa<|aF H29 (bh (vs:=[(.agg (eH.C (⟨x32,s25.2,0,(⟨0,0,0,0,0⟩:al),0,0⟩:eH)).toArray)]) p) p fun v41 _ H30=>aa<|aF H30 (bz p p) p fun v42 _ H31=>U p<|am<|J (bb p p)<|M p<|ad<|bU (v42,(i64.wrap (s25.2 + 1))) H31 (.cons p<|.cons p<|.cons p<|.cons p<|.cons p<|.cons p<|.cons p<|.cons p<|.cons p<|.cons p<|.nil _) .slnil) fun k28 H29=>bf<|am<|J (bb p p)<|M p<|ad<|bU (s25.1,(i64.wrap (s16.2 + 1))) H29 (.cons p<|.cons p<|.cons p<|.cons p<|.cons p<|.cons p<|.cons p<|.nil _) .slnil) fun k19 H20=>bf<|am<|J (bb p p)<|M p<|ad<|bU (s16.1,(i64.wrap (s10.2 + 1))) H20 (.cons p<|.cons p<|.cons p<|.cons p<|.nil _) .slnil) fun k13 H14=>bf<|O<|M p<|U p<|ah<|F ⟨s10.1,p,H14⟩
def rY (a0:Sl) (a1:Int) (a2:Int) (K:kT Int) (Rec2:kT (Int × Int × Int)) (s1:Int × Int × Int):hT:=br (decide (s1.2.2 < (a0.len:Int))) ( ix a0 s1.2.2 fun q15=>ld (q15.1,q15.2 + Int.toNat s1.2.2 * 10) eH.C fun x16=>br ((x16.fKind == a1) && (x16.fJa == a2)) ( Rec2 ((mx s1.1 0),0,(i64.wrap (s1.2.2 + 1)))) ( Rec2 ((mx s1.1 (i64.wrap (s1.2.1 + 1))),(i64.wrap (s1.2.1 + 1)),(i64.wrap (s1.2.2 + 1))))) ( K s1.1)
def sh_fair_Longest (a0:Sl) (a1:Int) (a2:Int) (K:kT Int):hT:=Lp (rY a0 a1 a2 K) (0,0,0)
theorem sim_fair_Longest (a0:Sl) (a1:Int) (a2:Int) {K:kT Int} {h:Hp} (H:sh_fair_Longest a0 a1 a2 K h):cl prog pM [(sv a0),(.int .i64 a1),(.int .i64 a2)] eN K h:=z_i func62 p p fun _=>O<|U p<|O<|J (ar p)<|U p<|ai<|O<|M p<|J (dh p underlying59 p)<|M p<|ad<|aw<|bv (step:=rY a0 a1 a2 K) (fun s1=>[(1,(.int .i64 a1)),(2,(.int .i64 a2)),(7,(.int .i64 s1.1)),(8,(.int .i64 s1.2.1)),(11,(sv a0)),(12,(.int .i64 (a0.len:Int))),(13,(.int .i64 s1.2.2))]) (fun s1=>[]) H (.cons p<|.cons p<|.cons p<|.cons p<|.cons p<|.cons p<|.cons p<|.nil _) .slnil fun Rec2 s1 _ H3=>O<|J (bZ p p)<|ad<|ai<|av p H3 (fun k4 H5=>ak<|ai<|aw<|O<|cm H5 fun q15 e6 h7 H8=>J (aW slc_59 (aJ p<|aM e6) p h7)<|aa<|ga H8 ag_103 p (fun _=>p) p fun x16 H9=>aa<|aT (l:=eH.C (⟨0,0,0,(⟨0,0,0,0,0⟩:al),0,0⟩:eH)) zero_103 p p fun b10=>aa<|aV (k:=0) (vs:=eH.C x16) inf_103 p p p p p p p<|ad<|O<|M p<|J (bb p p)<|U p<|ai<|O<|J (ae fld_103_0 p)<|bo (bc (k:=0) aR p p p) p<|M p<|J (bM p p)<|M p<|W p p (aA _) (fun g10=>wv<|ae fld_103_1 p)<|W p p (aA _) (fun g11=>cv<|bc (k:=0) aR (aC p g11) p p)<|W p p (aA _) (fun g12=>wv<|ag p)<|W p p (aA _) (fun g13=>wv<|bM (aC p g13)<|aC p g13)<|J (bN p p)<|ad<|av p H9 (fun k14 H15=>am<|U p<|am<|M p<|M p<|J (v_maxT p p)<|U p<|am<|J (bb p p)<|M p<|ad<|bU ((mx s1.1 0),0,(i64.wrap (s1.2.2 + 1))) H15 (.cons p<|.cons p<|.cons p<|.cons p<|.cons p<|.cons p<|.cons p<|.nil _)<|.cons _ .slnil) fun k14 H15=>ak<|am<|M p<|M p<|J (v_maxT p p)<|U p<|am<|J (bb p p)<|M p<|ad<|bU ((mx s1.1 (i64.wrap (s1.2.1 + 1))),(i64.wrap (s1.2.1 + 1)),(i64.wrap (s1.2.2 + 1))) H15 (.cons p<|.cons p<|.cons p<|.cons p<|.cons p<|.cons p<|.cons p<|.nil _)<|.cons _ .slnil) fun k4 H5=>bf<|O<|M p<|U p<|ah<|F ⟨s1.1,p,H5⟩
def xW (a0:Sl) (a1:Int) (a2:Int) (K:kT Bool) (Rec2:kT Int) (s1:Int):hT:=br (decide (s1 < a1)) ( cl prog pM [(sv a0),(.int .i64 2),(.int .i64 s1)] eN fun r14=>br (!(decide (r14 >= a2))) ( cl prog pM [(sv a0),(.int .i64 3),(.int .i64 s1)] eN fun r20=>br (decide (r20 >= a2)) ( K false) ( Rec2 (i64.wrap (s1 + 1)))) ( K false)) ( K true)
def sh_fair_Fair (a0:Sl) (a1:Int) (a2:Int) (K:kT Bool):hT:=Lp (xW a0 a1 a2 K) 0
theorem sim_fair_Fair (a0:Sl) (a1:Int) (a2:Int) {K:kT Bool} {h:Hp} (H:sh_fair_Fair a0 a1 a2 K h):cl prog n_fair_Fair [(sv a0),(.int .i64 a1),(.int .i64 a2)] aD K h:=z_i func30 p p fun _=>O<|U p<|ai<|O<|M p<|M p<|ad<|aw<|bv (step:=xW a0 a1 a2 K) (fun s1=>[(0,(sv a0)),(2,(.int .i64 a2)),(8,(.int .i64 a1)),(9,(.int .i64 s1))]) (fun s1=>[]) H (.cons p<|.cons p<|.cons p<|.cons p<|.nil _) .slnil fun Rec2 s1 _ H3=>O<|J (bZ p p)<|ad<|ai<|av p H3 (fun k4 H5=>ak<|ai<|aw<|O<|M p<|U p<|O<|M p<|M p<|aa<|G H5 en_62 fun r14 _ H6=>M p<|J (iE p p)<|M p<|W p p (aL _) (fun g7=>wv<|ag p)<|W p p (aL _) (fun g8=>wv<|ag p)<|bS H6 (fun k10 H11=>z_O (Z<|cg k10)<|gz H11 en_62 (aZ (aC p k10)<|aZ p<|aZ (aC p k10) bX) p fun r20 _ H12=>z_O (Z<|cg k10)<|z_p (ag p)<|z_O (Z<|cg k10)<|z_p (iE p p)<|J (ap p (cg k10) p)<|ad<|av p H12 (fun k13 H14=>O<|U p<|ah<|F ⟨false,p,H14⟩) fun k13 H14=>ak<|am<|J (bb p p)<|M p<|ad<|bU (i64.wrap (s1 + 1)) H14 (.cons p<|.cons p<|.cons p<|.cons p<|.nil _) .slnil) fun k10 H11=>Y (be<|bG k10)<|Y (be<|bG k10)<|Y (be<|bG k10)<|J (aI p (bG k10) p)<|ad<|gc p p<|O<|U p<|ah<|F ⟨false,p,H11⟩) fun k4 H5=>bf<|O<|U p<|ah<|F ⟨true,p,H5⟩
end
section
open Go Mb
abbrev Pick:=eH
abbrev vK (s:Sl) (xs:List Pick):As:=vec t_api_Pick 10 eH.C s xs
theorem pick_len (p:Pick):p.C.length = 10:=rfl
theorem pick_one (p:Pick):dS p.C = true:=rfl
namespace Fair
def longFrom (kind core:Int):List Pick->Int->Int->Int
 | [],best,_=>best
 | p::ps,best,now=>if p.fKind = kind/\p.fJa = core then longFrom kind core ps (mx best 0) 0 else longFrom kind core ps (mx best (i64.wrap (now + 1))) (i64.wrap (now + 1))
def longest (ps:List Pick) (kind core:Int):Int:=longFrom kind core ps 0 0
def okCore (ps:List Pick) (b:Int) (c:Nat):Bool:=decide (longest ps 2 c < b) && decide (longest ps 3 c < b)
def fair (ps:List Pick) (cores b:Int):Bool:=(range cores.toNat).all (okCore ps b)
def pk (kind:Int) (c:Nat):Pick:=⟨kind,c,0,⟨0,0,0,0,0⟩,0,0⟩
def line (kind:Int) (c:Nat):List Pick:=(range c).map (pk kind)
def lines (c:Nat) (kinds:List Int):List Pick:=kinds.flatMap fun k=>line k c
def turns (c n:Nat):List Pick:=(range n).flatMap fun _=>lines c [3,2]
def rounds (cores n:Int):List Pick:=if cores < 1\/cores > 8\/n < 0\/n > 500 then [] else turns cores.toNat n.toNat
theorem line_len (kind:Int) (c:Nat):(line kind c).length = c:=by simp [line]
theorem line_succ (kind:Int) (c:Nat):line kind (c + 1) = line kind c++[pk kind c]:=by simp [line,List.range_succ]
theorem turns_succ (c n:Nat):turns c (n + 1) = turns c n++lines c [3,2]:=by simp [turns,List.range_succ]
theorem lines_len (c:Nat):∀ (ks:List Int),(lines c ks).length = ks.length * c
 | []=>by simp [lines]
 | k::ks=>by
  have:=lines_len c ks;simp only [lines,List.flatMap_cons,length_append,line_len,List.length_cons,Nat.succ_mul] at this ⊢;omega
theorem turns_len (c n:Nat):(turns c n).length = n * (2 * c):=by
 induction n with
 | zero=>simp [turns]
 | succ n ih=>rw [turns_succ,length_append,ih,lines_len,Nat.add_mul n 1,Nat.one_mul]; rfl
end Fair
theorem sp_fair_Longest (s:Sl) (ps:List Pick) (kind core:Int) (hb:ps.length < 2 ^ 40):Sp prog pM [sv s,.int .i64 kind,.int .i64 core] eN [vK s ps] (fun r=>pa_ (r = Fair.longest ps kind core) [vK s ps]):=by
 intro h s0;have hl:=(bY (j:=0) s0 rfl).1;refine sim_fair_Longest _ _ _ ?_;unfold sh_fair_Longest;refine Lp.intro (fun (z:Int × Int × Int) h=>∃ n:Nat,z.2.2 = n/\n <= ps.length/\Fair.longFrom kind core (ps.drop n) z.1 z.2.1 = Fair.longest ps kind core/\ay [vK s ps] h) (fun (z:Int × Int × Int) _=>ps.length - z.2.2.toNat) ⟨0,rfl,zero_le _,rfl,s0⟩ ?_;rintro ⟨best,now,i⟩ h ⟨n,rfl,hn,he,s1⟩;unfold rY;simp only at he ⊢;refine aX (fun k=>?_) (fun k=>?_)
 ·have hlt:n < ps.length:=by rw [hl] at k; simpa using k
  have hw:i64.wrap ((n:Int) + 1) = ((n + 1:Nat):Int):=by rw [bp (by omega) (by omega)]; rfl
  rw [List.drop_eq_getElem_cons hlt,Fair.longFrom] at he;refine cU s1 (j:=0) rfl (by omega) (by omega) fun q hq=>?_;refine cX (j:=0) (i:=n) (k:=0) ps[n] pick_len s1 rfl hq rfl (aB hlt) (by simp) ?_;rw [hw];refine aX (fun k2=>?_) (fun k2=>?_)
  ·have k2':ps[n].fKind = kind/\ps[n].fJa = core:=by simpa using k2
   rw [if_pos k2'] at he;exact ⟨⟨n + 1,rfl,hlt,he,s1⟩,by simp; omega⟩
  ·have k2':¬ (ps[n].fKind = kind/\ps[n].fJa = core):=by simpa using k2
   rw [if_neg k2'] at he;exact ⟨⟨n + 1,rfl,hlt,he,s1⟩,by simp; omega⟩
 ·have:n = ps.length:=by rw [hl] at k; simp at k; omega
  subst this;rw [drop_length] at he;exact ba he s1
theorem sp_fair_Fair (s:Sl) (ps:List Pick) (cores b:Int) (hb:ps.length < 2 ^ 40) (hc:cores < 2 ^ 62):Sp prog n_fair_Fair [sv s,.int .i64 cores,.int .i64 b] aD [vK s ps] (fun r=>pa_ (r = Fair.fair ps cores b) [vK s ps]):=by
 intro h s0;refine sim_fair_Fair _ _ _ ?_;unfold sh_fair_Fair;refine Lp.intro (fun (i:Int) h=>∃ n:Nat,i = n/\n <= cores.toNat/\(∀ c,c < n->Fair.okCore ps b c = true)/\ay [vK s ps] h) (fun (i:Int) _=>cores.toNat - i.toNat) ⟨0,rfl,zero_le _,fun c hc=>by omega,s0⟩ ?_;rintro i h ⟨n,rfl,hn,ho,s1⟩;unfold xW;refine aX (fun k=>?_) (fun k=>?_)
 ·have hlt:n < cores.toNat:=by have:=of_decide_eq_true k; omega
  have hw:i64.wrap ((n:Int) + 1) = ((n + 1:Nat):Int):=by rw [bp (by omega) (by omega)]; rfl
  have no:Fair.okCore ps b n = false->Fair.fair ps cores b = false:=fun hf=>by
   unfold Fair.fair;cases ha:(range cores.toNat).all (Fair.okCore ps b) with
   | false=>rfl
   | true=>rw [List.all_eq_true.1 ha n (List.mem_range.2 hlt)] at hf; cases hf
  refine cc (sp_fair_Longest s ps 2 n hb) (i:=0) rfl s1 fun r h2 hr s2=>?_;subst hr;refine aX (fun k2=>?_) (fun k2=>?_)
  ·have k2':Fair.longest ps 2 n < b:=by simpa using k2
   refine cc (sp_fair_Longest s ps 3 n hb) (i:=0) rfl s2 fun r h3 hr s3=>?_;subst hr;refine aX (fun k3=>?_) (fun k3=>?_)
   ·have k3':¬ Fair.longest ps 3 n < b:=by simp at k3; omega
    exact ba (no (by simp [Fair.okCore,k3'])).symm s3
   ·have k3':Fair.longest ps 3 n < b:=by simp at k3; omega
    rw [hw];refine ⟨⟨n + 1,rfl,hlt,fun c hc=>?_,s3⟩,by simp; omega⟩;by_cases e:c = n
    ·subst e; simp [Fair.okCore,k2',k3']
    ·exact ho c (by omega)
  ·have k2':¬ Fair.longest ps 2 n < b:=by simp at k2; omega
   exact ba (no (by simp [Fair.okCore,k2'])).symm s2
 ·have:n = cores.toNat:=by have:=of_decide_eq_false k; omega
  subst this;refine ba ?_ s1;unfold Fair.fair;exact (List.all_eq_true.2 fun c hc=>ho c (List.mem_range.1 hc)).symm
theorem sp_fair_Rounds (cores n:Int):Sp prog vN [.int .i64 cores,.int .i64 n] oU [] (fun r=>ay [vK r (Fair.rounds cores n)]):=by
 intro h s0;refine sim_fair_Rounds _ _ ?_;unfold sh_fair_Rounds;refine aX (fun k=>?_) (fun k=>?_)
 ·have e1:Fair.rounds cores n = []:=if_pos (by simpa [or_assoc] using k);rw [e1]; exact fu s0
 ·have k':¬ (cores < 1\/cores > 8\/n < 0\/n > 500):=by simp at k; omega
  have e1:Fair.rounds cores n = Fair.turns cores.toNat n.toNat:=if_neg k';rw [e1];obtain ⟨C,rfl⟩:=Int.eq_ofNat_of_zero_le (show 0 <= cores by omega);obtain ⟨N,rfl⟩:=Int.eq_ofNat_of_zero_le (show 0 <= n by omega);simp only [Int.toNat_natCast];refine fy (τ:=Pick) [] (val:=fun x=>.agg x.C.toArray) (enc:=eH.C) el_Sapi_Pick pick_len (fun _=>rfl) s0 rfl rfl (by simp) fun v h1 s1=>?_;refine Lp.intro (fun (z:Sl × Int) h=>∃ j:Nat,z.2 = j/\j <= N/\ay [vK z.1 (Fair.turns C j)] h) (fun (z:Sl × Int) _=>N - z.2.toNat) ⟨0,rfl,zero_le _,s1⟩ ?_;rintro ⟨z,i⟩ h ⟨j,rfl,hj,s2⟩;unfold uf;refine aX (fun k2=>?_) (fun k2=>?_)
  ·have hlt:j < N:=by have:=of_decide_eq_true k2; simp at this; exact this
   have hw:i64.wrap ((j:Int) + 1) = ((j + 1:Nat):Int):=by rw [bp (by omega) (by omega)]; rfl
   have htl:=Fair.turns_len C j;have hC:C <= 8:=by omega
   have hjb:j * (2 * C) <= 500 * 16:=Nat.mul_le_mul (by omega) (by omega);refine fy (τ:=Int) [3,2] (val:=fun x=>.int .i64 x) (enc:=cI .i64) kH (cf _) (fun _=>rfl) s2 rfl rfl (by decide) fun vk h3 s3=>?_;have hvl:=(bY (j:=0) s3 rfl).1;refine Lp.intro (fun (y:Sl × Int) h=>∃ m:Nat,y.2 = m/\m <= 2/\ay [vK y.1 (Fair.turns C j++Fair.lines C (([3,2]:List Int).take m)),vec lE 1 (cI .i64) vk [3,2]] h) (fun (y:Sl × Int) _=>2 - y.2.toNat) ⟨0,rfl,zero_le _,by
    have s4:=bd (m:=[vK z (Fair.turns C j),vec lE 1 (cI .i64) vk [3,2]]) [1] s3 rfl;simpa [Fair.lines] using s4⟩ ?_
   rintro ⟨y,i2⟩ h ⟨m,rfl,hm,s4⟩;unfold ue;refine aX (fun k3=>?_) (fun k3=>?_)
   ·have hlt2:m < 2:=by rw [hvl] at k3; have:=of_decide_eq_true k3; simp at this; omega
    have hw2:i64.wrap ((m:Int) + 1) = ((m + 1:Nat):Int):=by rw [bp (by omega) (by omega)]; rfl
    have hkl:m < ([3,2]:List Int).length:=hlt2;refine cU s4 (j:=1) rfl (by omega) (by simp; omega) fun q hq=>?_;refine cX (j:=1) (i:=m) (k:=0) ([3,2]:List Int)[m] (cf _) s4 rfl hq (by simp) (aB hkl) (by simp) ?_;have hll:=Fair.lines_len C (([3,2]:List Int).take m);have hlb:(([3,2]:List Int).take m).length * C <= 2 * 8:=Nat.mul_le_mul (by simp; omega) (by omega);refine Lp.intro (fun (x:Sl × Int) h=>∃ p:Nat,x.2 = p/\p <= C/\ay [vK x.1 (Fair.turns C j++Fair.lines C (([3,2]:List Int).take m)++Fair.line ([3,2]:List Int)[m] p),vec lE 1 (cI .i64) vk [3,2]] h) (fun (x:Sl × Int) _=>C - x.2.toNat) ⟨0,rfl,zero_le _,by simpa [Fair.line] using s4⟩ ?_;rintro ⟨x,i3⟩ h ⟨p,rfl,hp,s5⟩;have hpl:=Fair.line_len ([3,2]:List Int)[m] p;unfold ud;refine aX (fun k4=>?_) (fun k4=>?_)
    ·have hlt3:p < C:=by have:=of_decide_eq_true k4; simp at this; exact this
     have hw3:i64.wrap ((p:Int) + 1) = ((p + 1:Nat):Int):=by rw [bp (by omega) (by omega)]; rfl
     refine kZ (τ:=Pick) (i:=0) (enc:=eH.C) (val:=fun x=>.agg x.C.toArray) (x:=Fair.pk ([3,2]:List Int)[m] p) el_Sapi_Pick pick_len pick_one (fun _=>rfl) (by omega) rfl rfl s5 rfl (by simp only [length_append]; omega) (by simp only [length_append]; omega) fun v h6 s6=>?_;rw [hw3];refine ⟨⟨p + 1,rfl,hlt3,?_⟩,by simp; omega⟩;rw [Fair.line_succ,← List.append_assoc];exact s6
    ·have:p = C:=by have:=of_decide_eq_false k4; simp at this; omega
     subst this;rw [hw2];refine ⟨⟨m + 1,rfl,hlt2,?_⟩,by simp; omega⟩;have et:([3,2]:List Int).take (m + 1) = ([3,2]:List Int).take m++[([3,2]:List Int)[m]]:=by rw [List.take_add_one,aB hkl]; rfl
     have el:Fair.lines p (([3,2]:List Int).take (m + 1)) = Fair.lines p (([3,2]:List Int).take m)++Fair.line ([3,2]:List Int)[m] p:=by
      rw [et]; unfold Fair.lines; rw [List.flatMap_append]; simp
     rw [el,← List.append_assoc];exact s5
   ·have:m = 2:=by rw [hvl] at k3; have:=of_decide_eq_false k3; simp at this; omega
    subst this;rw [hw];refine ⟨⟨j + 1,rfl,hlt,?_⟩,by simp; omega⟩;rw [Fair.turns_succ];exact mB (l:=[vK y (Fair.turns C j++Fair.lines C [3,2])]) s4
  ·have:j = N:=by have:=of_decide_eq_false k2; simp at this; omega
   subst this;exact s2
end
section
open Go Mb
def xd (a0:Sl) (a1:Int) (K:kT Sl) (Rec2:kT (Sl × Int)) (s1:Sl × Int):hT:=br (decide (s1.2 < (a0.len:Int))) ( ix a0 s1.2 fun q12=>ld (q12.1,q12.2 + Int.toNat s1.2 * 16) aq.C fun x13=>br ((x13.fCa == a1) && (decide (x13.fGa > 0))) ( hpv prog (Instr.buildSlice nv 1 #[(0,(.agg (ac.C x13.fWa).toArray))]) nJ fun (v26:Sl)=>hpv prog (Builtin.append_ #[nv,nv] nv #[(sv s1.1),(sv v26)]) nJ fun (v27:Sl)=>Rec2 (v27,(i64.wrap (s1.2 + 1)))) ( Rec2 (s1.1,(i64.wrap (s1.2 + 1))))) ( K s1.1)
def sh_twin_View (a0:Sl) (a1:Int) (K:kT Sl):hT:=Lp (xd a0 a1 K) ((⟨none,0,0,none⟩:Sl),0)
theorem sim_twin_View (a0:Sl) (a1:Int) {K:kT Sl} {h:Hp} (H:sh_twin_View a0 a1 K h):cl prog n_twin_View [(sv a0),(.int .i64 a1)] nJ K h:=z_i func31 p p fun _=>O<|U p<|O<|U p<|ai<|O<|M p<|J (dh p underlying22 p)<|M p<|ad<|aw<|bv (step:=xd a0 a1 K) (fun s1=>[(1,(.int .i64 a1)),(5,(sv s1.1)),(8,(sv a0)),(9,(.int .i64 (a0.len:Int))),(10,(.int .i64 s1.2))]) (fun s1=>[]) H (.cons p<|.cons p<|.cons p<|.cons p<|.cons p<|.nil _) .slnil fun Rec2 s1 _ H3=>O<|J (bZ p p)<|ad<|ai<|av p H3 (fun k4 H5=>ak<|ai<|aw<|O<|cm H5 fun q12 e6 h7 H8=>J (aW cQ (aJ p<|aM e6) p h7)<|aa<|ga H8 pV p (fun _=>p) p fun x13 H9=>aa<|aT (l:=aq.C (⟨0,0,(⟨0,0,0,0,0⟩:al),0,0,0,(⟨0,0⟩:ac),(⟨0,0,0,0⟩:ao)⟩:aq)) zero_40 p p fun b7=>aa<|aV (k:=0) (vs:=aq.C x13) inf_40 p p p p p p p<|ad<|O<|J (ae ms p)<|bo (bc (k:=0) aR p p p) p<|M p<|J (bM p p)<|M p<|W p p (aA _) (fun g10=>wv<|ae cM p)<|W p p (aA _) (fun g11=>cv<|bc (k:=0) aR (aC p g11) p p)<|W p p (aA _) (fun g12=>wv<|hG (aC p g12) p)<|J (bN p p)<|ad<|av p H9 (fun k13 H14=>am<|M p<|J (ae kQ p)<|bo (bK (k:=0) cJ p p p p) p<|aa<|aF H14 (bh (vs:=[(.agg (ac.C x13.fWa).toArray)]) p) p fun v26 _ H15=>aa<|aF H15 (bz p p) p fun v27 _ H16=>U p<|am<|J (bb p p)<|M p<|ad<|bU (v27,(i64.wrap (s1.2 + 1))) H16 (.cons p<|.cons p<|.cons p<|.cons p<|.cons p<|.nil _)<|.cons _ .slnil) fun k13 H14=>ak<|am<|J (bb p p)<|M p<|ad<|bU (s1.1,(i64.wrap (s1.2 + 1))) H14 (.cons p<|.cons p<|.cons p<|.cons p<|.cons p<|.nil _)<|.cons _ .slnil) fun k4 H5=>bf<|O<|M p<|U p<|ah<|F ⟨s1.1,p,H5⟩
end
section
open Go Mb
abbrev vA (s:Sl) (xs:List gZ):As:=vec t_api_Answer 2 ac.C s xs
theorem ans_len (p:gZ):p.C.length = 2:=rfl
theorem ans_one (p:gZ):dS p.C = true:=rfl
namespace Twin
def view (env:Int):List bC->List gZ
 | []=>[]
 | e::es=>if e.fCa = env/\e.fGa > 0 then e.fWa::view env es else view env es
def same:List gZ->List gZ->Bool
 | [],[]=>true
 | a::l,b::r=>ac.eqb a b && same l r
 | _,_=>false
theorem view_app (env:Int) (e:bC):∀ es,view env (es++[e]) = view env es++(if e.fCa = env/\e.fGa > 0 then [e.fWa] else [])
 | []=>by simp only [List.nil_append,view]
 | d::es=>by
  simp only [List.cons_append,view,view_app env e es];split <;> simp
theorem view_len (env:Int):∀ es,(view env es).length <= es.length
 | []=>le_refl _
 | e::es=>by unfold view; have:=view_len env es; split <;> simp <;> omega
end Twin
theorem sp_twin_View (s:Sl) (es:List bC) (env:Int) (hb:es.length < 2 ^ 38):Sp prog n_twin_View [sv s,.int .i64 env] nJ [vE s es] (fun r=>ay [vA r (Twin.view env es),vE s es]):=by
 intro h s0;have hl:=(bY (j:=0) s0 rfl).1;refine sim_twin_View _ _ ?_;unfold sh_twin_View;refine Lp.intro (fun (z:Sl × Int) h=>∃ n:Nat,z.2 = n/\n <= es.length/\ay [vA z.1 (Twin.view env (es.take n)),vE s es] h) (fun (z:Sl × Int) _=>es.length - z.2.toNat) ⟨0,rfl,zero_le _,fu s0⟩ ?_;rintro ⟨z,i⟩ h ⟨n,rfl,hn,s1⟩;unfold xd;refine aX (fun k=>?_) (fun k=>?_)
 ·have hlt:n < es.length:=by rw [hl] at k; simpa using k
  have hw:i64.wrap ((n:Int) + 1) = ((n + 1:Nat):Int):=by rw [bp (by omega) (by omega)]; rfl
  have ht:es.take (n + 1) = es.take n++[es[n]]:=by simp
  refine cU s1 (j:=1) rfl (by omega) (by show (n:Int) < _; omega) fun q hq=>?_;refine cX (j:=1) (i:=n) (k:=0) es[n] eK s1 rfl hq rfl (aB hlt) (by simp) ?_;rw [hw];refine aX (fun k2=>?_) (fun k2=>?_)
  ·have k2':es[n].fCa = env/\es[n].fGa > 0:=by simpa using k2
   have hvl:=Twin.view_len env (es.take n);simp at hvl;refine kZ (τ:=gZ) (i:=0) (enc:=ac.C) (val:=fun x=>.agg x.C.toArray) el_Sapi_Answer ans_len ans_one (fun _=>rfl) (by omega) rfl rfl s1 rfl (by omega) (by omega) fun v h2 s2=>?_;refine ⟨⟨n + 1,rfl,hlt,?_⟩,by simp; omega⟩;rw [ht,Twin.view_app,if_pos k2'];exact s2
  ·have k2':¬ (es[n].fCa = env/\es[n].fGa > 0):=by simpa using k2
   refine ⟨⟨n + 1,rfl,hlt,?_⟩,by simp; omega⟩;rw [ht,Twin.view_app,if_neg k2',List.append_nil];exact s1
 ·have:n = es.length:=by rw [hl] at k; simp at k; omega
  subst this;rw [List.take_length] at s1;exact s1
end
section
open Go Mb
variable {ET:Nat} {EF:Nat × Nat}
theorem kern_nn {l:List As} {h:Hp} {x:Ptr} {k:KK} (s:ay (dM x k::l) h):x.isNone = false:=nn_of (fun _ e=>by rw [e.1]; rfl) s
namespace B16
abbrev sz:gX:=⟨2,2,3⟩
def r1:=KK.run (KK.new ⟨2,2,3⟩) 0 0 ⟨1,1,0,0,0⟩
def r2:=KK.run r1.2 0 0 ⟨6,4,1,3,0⟩
def r3:=KK.run r2.2 1 0 ⟨21,4,2,9,0⟩
def r4:=KK.run r3.2 0 0 ⟨20,4,2,0,0⟩
def r5:=KK.run r4.2 0 0 ⟨7,4,0,0,0⟩
def es:=r5.2.events
theorem es_len:es.length = 5:=by kernel_rfl
theorem apart:Hist.may es sz = true:=by kernel_rfl
theorem now1:r1.2.now < 1000:=of_decide_eq_true (by kernel_rfl)
theorem now2:r2.2.now < 1000:=of_decide_eq_true (by kernel_rfl)
theorem now3:r3.2.now < 1000:=of_decide_eq_true (by kernel_rfl)
theorem now4:r4.2.now < 1000:=of_decide_eq_true (by kernel_rfl)
theorem now5:r5.2.now < 1000:=of_decide_eq_true (by kernel_rfl)
theorem lin:fQa.linear es sz = (-1,true):=by kernel_rfl
theorem acc:fQa.accesses es sz = (-1,true):=by kernel_rfl
theorem rgt:fQa.right es sz = true:=by kernel_rfl
end B16
theorem ord20 {es:List bC} (s:Sl) (h:es.length <= 20):Hist.Apart es->OrdOk s es:=fun ha=>sp_hist_OrderN s es (by omega) ha
theorem sp_begun16:Sp prog lh [] aD [(etB ET EF)] (fun r=>pa_ (r = true) [(etB ET EF)]):=by
 intro h st;refine wg ?_;unfold pt;refine nl (sp_kern_New ⟨2,2,3⟩ (by decide)) st fun x h1 s1=>?_;refine dN (kern_nn s1) ?_;refine cc (i:=0) (sp_Run x _ 0 0 ⟨1,1,0,0,0⟩ (by decide)) rfl s1 fun a1 h2 e1 s2=>?_;refine cc (i:=0) (sp_Run x B16.r1.2 0 0 ⟨6,4,1,3,0⟩ (by have:=B16.now1; omega)) rfl s2 fun a2 h3 e2 s3=>?_;refine cc (i:=0) (sp_Run x B16.r2.2 1 0 ⟨21,4,2,9,0⟩ (by have:=B16.now2; omega)) rfl s3 fun a3 h4 e3 s4=>?_;refine cc (i:=0) (sp_Run x B16.r3.2 0 0 ⟨20,4,2,0,0⟩ (by have:=B16.now3; omega)) rfl s4 fun a4 h5 e4 s5=>?_;refine cc (i:=0) (sp_Run x B16.r4.2 0 0 ⟨7,4,0,0,0⟩ (by have:=B16.now4; omega)) rfl s5 fun a5 h6 e5 s6=>?_;refine ui (i:=0) (sp_kern_Events x B16.r5.2 (by have:=B16.now5; omega)) rfl s6 fun s h7 s7=>?_;have hes:B16.es.length < 2 ^ 38:=by rw [B16.es_len]; decide
 have hes20:B16.es.length <= 20:=by rw [B16.es_len]; decide
 refine cc (i:=0) (sp_judge_Linear s B16.es B16.sz (by decide) hes (ord20 s hes20)) rfl s7 fun r1 h8 f1 s8=>?_;refine cc (i:=0) (sp_judge_Access s B16.es B16.sz (by decide) hes (ord20 s hes20)) rfl s8 fun r2 h9 f2 s9=>?_;refine nl (sp_fair_Rounds 2 3) s9 fun t h10 s10=>?_;refine cc (i:=3) sp_Begun11 rfl s10 fun r3 h11 f3 s11=>?_;have hl:((s.len:Int) == 5) = true:=by rw [(bY (j:=1) s11 rfl).1]; kernel_rfl
 have htl:((t.len:Int) == 12) = true:=by rw [(bY (j:=0) s11 rfl).1]; kernel_rfl
 have g1:a1 = B16.r1.1:=e1.1;have g2:a2 = B16.r2.1:=e2.1;have g3:a3 = B16.r3.1:=e3.1;have g4:a4 = B16.r4.1:=e4.1;have g5:a5 = B16.r5.1:=e5.1;rw [B16.lin] at f1;rw [B16.acc] at f2;rw [f1,f2,f3,g1,g2,g3,g4,g5,hl];refine eG (by kernel_rfl) ?_;refine cc (i:=1) (sp_hist_May s B16.es B16.sz hes) rfl s11 fun r4 h12 f4 s12=>?_;refine eG (f4.trans B16.apart) ?_;refine ui (i:=1) (sp_hist_Order20 s B16.es hes20 (Hist.may_apart B16.apart)) rfl s12 fun o h13 s13=>?_;have hol:((o.len:Int) == 5) = true:=by rw [(bY (j:=0) s13 rfl).1]; kernel_rfl
 refine eG (by rw [hol,htl]; rfl) ?_;refine cc (i:=1) (sp_fair_Fair t _ 2 5 (by decide) (by decide)) rfl s13 fun r5 h14 f5 s14=>?_;refine eG (f5.trans (by kernel_rfl)) ?_;refine ui (i:=2) (sp_twin_View s B16.es 0 hes) rfl s14 fun v h15 s15=>?_;have hvl:((v.len:Int) == 5) = true:=by rw [(bY (j:=0) s15 rfl).1]; kernel_rfl
 refine eG hvl ?_;refine cc (i:=3) (sp_judge_Right s B16.es B16.sz (by decide) hes (ord20 s hes20)) rfl s15 fun r6 h16 f6 s16=>?_;exact ba (f6.trans B16.rgt) (ce (l:=[_,_,_,_,_]) s16)
end
section
open Go Mb
theorem cons_same {x y:Int} {a b:List Int}:(decide (x::a = y::b)) = (x == y && decide (a = b)):=by
 by_cases h:x = y
 ·subst h; simp
 ·simp [h]
theorem sp_ints (s t:Sl) (a b:List Int) (hb:a.length < 2 ^ 60):Sp prog jq [sv s,sv t] aD [vI s a,vI t b] (fun r=>pa_ (r = decide (a = b)) [vI s a,vI t b]):=by
 intro h s0;have hs:=(bY (j:=0) s0 rfl).1;have ht:=(bY (j:=1) s0 rfl).1;refine xx _ _ ?_;unfold qn;refine aX (fun k=>?_) (fun k=>?_)
 ·have k':a.length ≠ b.length:=by rw [hs,ht] at k; simp at k; omega
  exact ba (decide_eq_false fun e=>k' (by rw [e])).symm s0
 ·have k':a.length = b.length:=by rw [hs,ht] at k; simp at k; omega
  refine Lp.intro (fun (i:Int) h=>∃ n:Nat,i = n/\n <= a.length/\decide (a.drop n = b.drop n) = decide (a = b)/\ay [vI s a,vI t b] h) (fun (i:Int) _=>a.length - i.toNat) ⟨0,rfl,zero_le _,rfl,s0⟩ ?_;rintro i h ⟨n,rfl,hn,he,s1⟩;unfold lr;refine aX (fun k2=>?_) (fun k2=>?_)
  ·have hlt:n < a.length:=by rw [hs] at k2; simpa using k2
   have hlb:n < b.length:=by omega
   have hw:i64.wrap ((n:Int) + 1) = ((n + 1:Nat):Int):=by rw [bp (by omega) (by omega)]; rfl
   rw [List.drop_eq_getElem_cons hlt,List.drop_eq_getElem_cons hlb,cons_same] at he;refine cU s1 (j:=0) rfl (by omega) (by omega) fun q hq=>?_;refine cU s1 (j:=1) rfl (by omega) (by omega) fun q2 hq2=>?_;refine cX (j:=0) (i:=n) (k:=0) a[n] (cf _) s1 rfl hq rfl (aB hlt) (by simp) ?_;refine cX (j:=1) (i:=n) (k:=0) b[n] (cf _) s1 rfl hq2 rfl (aB hlb) (by simp) ?_;refine aX (fun k3=>?_) (fun k3=>?_)
   ·have k3':(a[n] == b[n]) = false:=by simpa using k3
    rw [k3'] at he;exact ba he s1
   ·have k3':(a[n] == b[n]) = true:=by simpa using k3
    rw [k3',Bool.true_and] at he;rw [hw];exact ⟨⟨n + 1,rfl,hlt,he,s1⟩,by simp; omega⟩
  ·have:n = a.length:=by rw [hs] at k2; simp at k2; omega
   subst this;rw [drop_length,k',drop_length] at he;exact ba (by rw [← he]; rfl) s1
end
end Go.Proofs.YtochchocdckegaaGreatDoor
