/- Part of the proof of: The law KernBuffers returns true for every input, and leaves its arguments as they were. -/
import Derived.Test.YtjcamacgclipiaaGreatDoorKernBuffers14
import Derived.Test.YtjcamacgclipiaaGreatDoorCards
import Derived.Test.YtjcamacgclipiaaGreatDoorRows
set_option linter.all false
set_option maxRecDepth 20000
set_option maxHeartbeats 4000000
namespace Go.Proofs.YtjcamacgclipiaaGreatDoor
open Go.Proofs.Tryz
open Go.IntKind (i64 u64)
open _root_.Bool (and_eq_true)
open _root_.Int (le_refl)
open _root_.List (all_eq_true drop_drop getElem?_eq_getElem length_append mem_range range replicate take_append_drop)
open _root_.Nat (succ_mul zero_le)
open _root_.Option (bind_eq_some_iff)
section
open Go Mb
attribute [local irreducible] bM gR il Val Tx Tu Tn RV Res br nn ix gd ld st nw cl clv dL Lp ct
def pu (K:kT Bool):hT:=cl prog wK [(.int .i64 2)] tY fun r24=>cl prog kU [] gF fun r25=>cl prog gS [] fG fun r26=>cl prog tH [(.int .i64 3)] oR fun r27=>cl prog tJ [(.int .u64 5)] oS fun r28=>cl prog xT [] tX fun r29=>cl prog xW [(.int .i64 2)] sN fun r30=>br ((((((r24.isNone || r25.isNone) || r26.isNone) || r27.isNone) || r28.isNone) || r29.isNone) || r30.isNone) ( K false) ( cl prog dl [(pv r25),(.int .i64 1),(.agg (ak.C (⟨1,2,3⟩:ak)).toArray)] aC fun r59=>cl prog oB [(pv r26),(.agg (an.C (⟨1,5,1,1⟩:an)).toArray)] ai fun r67=>cl prog oA [(pv r26),(.int .i64 1),(.int .i64 5)] eJ fun r70=>cl prog mR [(pv r27),(.int .i64 0),(.int .u64 4)] cH fun r74=>cl prog lL [(pv r27),(.int .i64 2)] aU fun r77=>cl prog oK [(pv r28),(.int .u64 9)] aU fun r82=>cl prog ne [(pv r29)] eE fun r86=>cl prog iI [(pv r30)] aR fun r89=>cl prog li [] ai fun r97=>br (((((((((((r97 && (r59 == 0)) && (cK (⟨1,2,3⟩:ak)).2) && (((cK (⟨1,2,3⟩:ak)).1) == 33059)) && r67) && r70.2) && (r70.1.fEa == 1)) && (r74 == 2)) && (r77.1 == 4)) && r77.2) && (r82.1 == 6)) && (r86 == 0)) ( cl prog ju [(pv r29),(.int .u64 0)] ai fun r141=>br r141 ( cl prog nc [(pv r29),(.int .u64 0)] ai fun r145=>br ((r145 && (r89.1 == 0)) && r89.2) ( cl prog eH [(pv r24),(.int .i64 1),(.int .i64 3),(.int .u64 9)] ai fun r156=>br ((r156 && (am (⟨6,0,0,0,0⟩:aa)).2) && (((am (⟨6,0,0,0,0⟩:aa)).1) == 6)) ( cl prog fT [(.agg (aa.C (⟨6,8,0,1,0⟩:aa)).toArray),(.int .i64 2)] aC fun r167=>br (r167 == 2) ( cl prog n_word_Args [(.int .i64 3)] cH fun r171=>br ((r171 == 4) && (ap 1 3)) ( cl prog lH [(pv r25),(.int .i64 2)] av fun r179=>br ((r179.len:Int) == 1) ( cl prog qd [(pv r30)] eE fun r185=>K (r185 == 2)) ( K false)) ( K false)) ( K false)) ( K false)) ( K false)) ( K false)) ( K false))
theorem xv {K:kT Bool} {h:Hp} (H:pu K h):cl prog lc [] ai K h:=J [] func187 H
def pw (K:kT Bool):hT:=cl prog lc [] ai fun r1=>K r1
theorem xw {K:kT Bool} {h:Hp} (H:pw K h):cl prog lf [] ai K h:=J [] func146 H
end
section
open Go Mb
variable {ET:Nat} {EF:Nat × Nat}
section
variable {l:List As} {h:Hp} {x:Ptr}
theorem mem_nn {fs:List (List Int)} (s:ah (gC x fs::l) h):x.isNone = false:=by obtain ⟨b,_,_,rfl,_⟩:=mem_op s; rfl
theorem nn_of {α:Type} {φ:α->Prop} {m:α->List As} (hx:∀ z,φ z->x.isNone = false) (s:ah ((fun h=>∃ z,φ z/\ah (m z) h)::l) h):x.isNone = false:=by
 obtain ⟨z,f,_⟩:=op_ s;exact hx z f
theorem table_nn {ps:List Pte} (s:ah (bV x ps::l) h):x.isNone = false:=nn_of (fun _ e=>by rw [e.1]; rfl) s
theorem tlb_nn {t:List TL × Int} (s:ah (dZ x t::l) h):x.isNone = false:=nn_of (fun _ e=>by rw [e.1]; rfl) s
theorem mail_nn {bs:List (List Int)} (s:ah (iv x bs::l) h):x.isNone = false:=nn_of (fun _ e=>by rw [e.1]; rfl) s
theorem cell_nn {c:Int × Int} (s:ah (ku x c::l) h):x.isNone = false:=nn_of (fun _ e=>by rw [e]; rfl) s
theorem lock_nn {k:(Int × Int) × (Int × Int)} (s:ah (vz x k::l) h):x.isNone = false:=nn_of (fun _ e=>by rw [e]; rfl) s
theorem pool_nn {p:List Int} (s:ah (eW x p::l) h):x.isNone = false:=nn_of (fun _ e=>by rw [e.1]; rfl) s
end
theorem sp_Begun1:Sp prog li [] ai [(etB ET EF)] (fun r=>pa_ (r = true) [(etB ET EF)]):=by
 intro h st;refine xy ?_;unfold py;exact aW (i:=0) sp_begun1 rfl st fun r h' hr s=>aw hr s
theorem sp_begun2:Sp prog lc [] ai [(etB ET EF)] (fun r=>pa_ (r = true) [(etB ET EF)]):=by
 intro h st;refine xv ?_;unfold pu;refine lW (sp_mem_New 2 (by decide) (by decide)) st fun a1 h1 s1=>?_;refine lW nT s1 fun a2 h2 s2=>?_;refine lW xh s2 fun a3 h3 s3=>?_;refine lW (sp_mail_New 3 (by decide) (by decide)) s3 fun a4 h4 s4=>?_;refine lW (sp_cell_New 5) s4 fun a5 h5 s5=>?_;refine lW sp_ticket_New s5 fun a6 h6 s6=>?_;refine lW (sp_pool_New 2 (by decide) (by decide)) s6 fun a7 h7 s7=>?_;have n1:=mem_nn s1;have n2:=table_nn s2;have n3:=tlb_nn s3;have n4:=mail_nn s4;have n5:=cell_nn s5;have n6:=lock_nn s6;have n7:=pool_nn s7;rw [n1,n2,n3,n4,n5,n6,n7];refine bB rfl ?_;refine aW (i:=5) (jF a2 _ 1 ⟨1,2,3⟩) rfl s7 fun r1 h8 e1 s8=>?_;refine aW (i:=4) (sp_tlb_Fill a3 _ ⟨1,5,1,1⟩) rfl s8 fun r2 h9 e2 s9=>?_;refine aW (i:=4) (sp_tlb_Find a3 _ 1 5) rfl s9 fun r3 h10 e3 s10=>?_;refine aW (i:=3) (sp_mail_All a4 _ 0 4 (fun l hl=>?_)) rfl s10 fun r4 h11 e4 s11=>?_
 ·have:l = []:=by simpa using hl
  subst this;exact ⟨fun _ h=>(by cases h),.nil,by decide⟩
 refine aW (i:=3) (sp_mail_Take a4 _ 2) rfl s11 fun r5 h12 e5 s12=>?_;refine aW (i:=2) (sp_cell_Up a5 _ 9) rfl s12 fun r6 h13 e6 s13=>?_;refine aW (i:=1) (sp_ticket_Draw a6 _) rfl s13 fun r7 h14 e7 s14=>?_;refine aW (i:=0) (xi a7 _) rfl s14 fun r8 h15 e8 s15=>?_;refine aW (i:=7) sp_Begun1 rfl s15 fun r9 h16 e9 s16=>?_;subst e1 e2 e3 e4 e5 e6 e7 e8 e9;refine cg (by kernel_rfl) ?_;refine aW (i:=1) (sp_ticket_Turn a6 _ 0) rfl s16 fun r10 h17 e10 s17=>?_;subst e10;refine cg (by kernel_rfl) ?_;refine aW (i:=1) (sp_ticket_Pass a6 _ 0) rfl s17 fun r11 h18 e11 s18=>?_;subst e11;refine cg (by kernel_rfl) ?_;refine aW (i:=6) (lE a1 _ 1 3 9) rfl s18 fun r12 h19 e12 s19=>?_;subst e12;refine cg (by kernel_rfl) ?_;refine ud (ir ⟨6,8,0,1,0⟩ 2) s19 fun r13 h20 e13 s20=>?_;subst e13;refine cg (by kernel_rfl) ?_;refine ud (sp_word_Args 3) s20 fun r14 h21 e14 s21=>?_;subst e14;refine cg (by kernel_rfl) ?_;refine sM (i:=5) (sp_table_By a2 _ 2) rfl s21 fun r15 h22 s22=>?_;have e15:((r15.len:Int) == 1) = true:=by
  rw [(aX (j:=0) s22 rfl).1]
  kernel_rfl
 refine cg e15 ?_;refine aW (i:=1) (sp_pool_Bits a7 _) rfl s22 fun r16 h23 e16 s23=>?_;subst e16;refine aw (by kernel_rfl) (aT (l:=[_,_,_,_,_,_,_,_]) s23)
theorem sp_Begun2:Sp prog lf [] ai [(etB ET EF)] (fun r=>pa_ (r = true) [(etB ET EF)]):=by
 intro h st;refine xw ?_;unfold pw;exact aW (i:=0) sp_begun2 rfl st fun r h' hr s=>aw hr s
end
section
open Go Mb
attribute [local irreducible] bM gR il Val Tx Tu Tn RV Res br nn ix gd ld st nw cl clv dL Lp ct
def oh (K:kT Bool):hT:=cl prog nC [(.agg (ao.C (⟨1,2,2⟩:ao)).toArray)] cM fun r23=>cl prog ya [(.int .i64 2)] sP fun r24=>cl prog nF [(.int .i64 3)] gV fun r25=>cl prog gS [] fG fun r26=>cl prog kU [] gF fun r27=>cl prog wK [(.int .i64 2)] tY fun r28=>br (((((r23.isNone || r24.isNone) || r25.isNone) || r26.isNone) || r27.isNone) || r28.isNone) ( K false) ( cl prog cD [(pv r23),(.int .i64 0),(.agg (aa.C (⟨1,1,0,0,0⟩:aa)).toArray)] aD fun r54=>cl prog cD [(pv r23),(.int .i64 0),(.agg (aa.C (⟨6,2,1,3,0⟩:aa)).toArray)] aD fun r60=>cl prog cD [(pv r23),(.int .i64 0),(.agg (aa.C (⟨21,2,5,77,0⟩:aa)).toArray)] aD fun r65=>cl prog cD [(pv r23),(.int .i64 0),(.agg (aa.C (⟨20,2,5,0,0⟩:aa)).toArray)] aD fun r69=>cl prog iL [(pv r24),(.int .i64 0),(.int .i64 1),(.int .i64 1)] aC fun r73=>cl prog gA [(pv r24),(.int .i64 0),(.int .i64 1),(.int .i64 1),(.int .i64 3),(.int .i64 1)] aC fun r75=>cl prog hZ [(pv r25),(.int .i64 0)] aU fun r78=>cl prog jz [(pv r25),(.int .i64 1),(.int .u64 r78.1)] ai fun r83=>cl prog dl [(pv r27),(.int .i64 2),(.agg (ak.C (⟨1,1,1⟩:ak)).toArray)] aC fun r86=>cl prog n_user_Do [(pv r26),(pv r27),(pv r28),(.int .i64 0),(.agg (aa.C (⟨20,2,3,0,0⟩:aa)).toArray)] dH fun r92=>cl prog ng [(pv r23),(.int .i64 0),(.agg (aa.C (⟨7,5,0,0,0⟩:aa)).toArray)] gK fun r97=>cl prog lf [] ai fun r98=>br ((((((r98 && r54.2) && (r54.1.fWa == 0)) && (r60.1.fWa == 0)) && (r69.1.fVal == 77)) && (r73 == 0)) && (r75 == 0)) ( cl prog kF [(pv r24),(.int .i64 0),(.int .i64 1)] bS fun r127=>br (((((r127.len:Int) == 1) && (r78.1 == 1)) && r78.2) && r83) ( cl prog iB [(pv r25),(.int .u64 1)] ai fun r143=>br (!r143) ( cl prog hY [(pv r25),(.int .u64 1)] av fun r148=>br ((((((r148.len:Int) == 1) && (r86 == 0)) && (r92.1.fWa == 0)) && (r92.2.fEa == 1)) && (eo 3 3 4)) ( cl prog jZ [(.int .i64 3)] gK fun r171=>cl prog nE [r97,r171] ai fun r172=>br r172 ( cl prog mo [(pv r23)] av fun r176=>K ((r176.len:Int) == 1)) ( K false)) ( K false)) ( K false)) ( K false)) ( K false))
theorem wi {K:kT Bool} {h:Hp} (H:oh K h):cl prog kq [] ai K h:=J [] func95 H
def ol (K:kT Bool):hT:=cl prog kq [] ai fun r1=>K r1
theorem wj {K:kT Bool} {h:Hp} (H:ol K h):cl prog kr [] ai K h:=J [] func45 H
end
section
open Go Mb
variable {ET:Nat} {EF:Nat × Nat}
section
variable {l:List As} {h:Hp} {x:Ptr}
theorem plain_nn {k:PK} (s:ah (aO x k::l) h):x.isNone = false:=nn_of (fun _ e=>by rw [e.1]; rfl) s
theorem tree_nn {k:fAa.T} (s:ah (bD x k::l) h):x.isNone = false:=nn_of (fun _ e=>by rw [e.1]; rfl) s
theorem epochs_nn {k:List Int × List Int} (s:ah (dU x k::l) h):x.isNone = false:=nn_of (fun _ e=>by rw [e.1]; rfl) s
end
theorem sp_plain_Err (x:Ptr) (k:PK) (e:Int) (c:aa) (h1:(PK.do_ k e c).1.2 = true) (h2:(PK.do_ k e c).1.1.fWa ≠ 0):Sp prog ng [pv x,.int .i64 e,.agg c.C.toArray] gK [(etB ET EF),aO x k]
  (fun r=>ex fun b:Nat × Nat=>pa_ (r = cq b.1) [trB b.1 ⟨(PK.do_ k e c).1.1.fWa,e,c,cq b.2⟩,(etB ET EF),aO x k]):=by
 intro h st;have hn:=plain_nn (aA [1] st rfl);refine sim_plain_Kernel_Err _ _ _ ?_;unfold rT;refine bB hn ?_;refine sM (i:=1) (uY x k) rfl st fun y g1 s1=>?_;refine aW (i:=0) (je y k e c) rfl s1 fun r g2 hr s2=>?_;subst hr;refine bB (by rw [h1]; rfl) ?_;refine bG [] (rest:=[_,_,_]) (sp_Of _ h2) s2 rfl fun r g3 s3=>?_;obtain ⟨b,x3⟩:=uU s3;obtain ⟨rfl,y3⟩:=aM.1 x3;refine bG [2,0] (rest:=[_,_]) (sp_In e c b _) y3 rfl fun r g4 s4=>?_;obtain ⟨d,x4⟩:=uU s4;obtain ⟨rfl,y4⟩:=aM.1 x4;refine ⟨(d,b),aw rfl (aT (l:=[_,_]) (aA [2,2] y4 rfl))⟩
theorem sp_begun11:Sp prog kq [] ai [(etB ET EF)] (fun r=>pa_ (r = true) [(etB ET EF)]):=by
 intro h st;refine wi ?_;unfold oh;refine lW (sx ⟨1,2,2⟩ (by decide)) st fun a1 h1 s1=>?_;refine lW (sp_caps_New 2 (by decide) (by decide)) s1 fun a2 h2 s2=>?_;refine lW (sA 3 (by decide) (by decide)) s2 fun a3 h3 s3=>?_;refine lW xh s3 fun a4 h4 s4=>?_;refine lW nT s4 fun a5 h5 s5=>?_;refine lW (sp_mem_New 2 (by decide) (by decide)) s5 fun a6 h6 s6=>?_;have n1:=plain_nn s1;have n2:=tree_nn s2;have n3:=epochs_nn s3;have n4:=tlb_nn s4;have n5:=table_nn s5;have n6:=mem_nn s6;rw [n1,n2,n3,n4,n5,n6];refine bB rfl ?_;refine aW (i:=5) (je a1 _ 0 ⟨1,1,0,0,0⟩) rfl s6 fun r1 h7 e1 s7=>?_;refine aW (i:=5) (je a1 _ 0 ⟨6,2,1,3,0⟩) rfl s7 fun r2 h8 e2 s8=>?_;refine aW (i:=5) (je a1 _ 0 ⟨21,2,5,77,0⟩) rfl s8 fun r3 h9 e3 s9=>?_;refine aW (i:=5) (je a1 _ 0 ⟨20,2,5,0,0⟩) rfl s9 fun r4 h10 e4 s10=>?_;refine aW (i:=4) (xl a2 _ 0 1 1) rfl s10 fun r5 h11 e5 s11=>?_;refine aW (i:=4) (tg a2 _ 0 1 1 3 1) rfl s11 fun r6 h12 e6 s12=>?_;refine aW (i:=3) (sp_epoch_Begin a3 _ 0 (by decide)) rfl s12 fun r7 h13 e7 s13=>?_;subst e7;refine aW (i:=3) (sp_epoch_Ack a3 _ 1 _) rfl s13 fun r8 h14 e8 s14=>?_;refine aW (i:=1) (jF a5 _ 2 ⟨1,1,1⟩) rfl s14 fun r9 h15 e9 s15=>?_;refine bG [2,1,0] (rest:=[_,_,_,_]) (sp_user_Do a4 a5 a6 _ _ _ 0 ⟨20,2,3,0,0⟩) s15 rfl fun r10 h16 x16=>?_;obtain ⟨e10,s16⟩:=aM.1 x16;subst e1 e2 e3 e4 e5 e6 e8 e9 e10;refine bG [6,5] (rest:=[_,_,_,_,_]) (sp_plain_Err a1 _ 0 ⟨7,5,0,0,0⟩ (by kernel_rfl) (by decide)) s16 rfl fun r11 h17 x17=>?_;obtain ⟨⟨b,b'⟩,z17⟩:=uU x17;obtain ⟨rfl,s17⟩:=aM.1 z17;refine aW (i:=1) sp_Begun2 rfl s17 fun r12 h18 e12 s18=>?_;subst e12;refine cg (by kernel_rfl) ?_;refine sM (i:=7) (sp_caps_Below a2 _ 0 1) rfl s18 fun r13 h19 s19=>?_;have e13:((r13.len:Int) == 1) = true:=by
  rw [(aX (j:=0) s19 rfl).1]
  kernel_rfl
 rw [e13];refine cg (by kernel_rfl) ?_;refine aW (i:=7) (sp_epoch_Done a3 _ 1) rfl s19 fun r14 h20 e14 s20=>?_;subst e14;refine cg (by kernel_rfl) ?_;refine sM (i:=7) (sp_epoch_Waits a3 _ 1) rfl s20 fun r15 h21 s21=>?_;have e15:((r15.len:Int) == 1) = true:=by
  rw [(aX (j:=0) s21 rfl).1]
  kernel_rfl
 rw [e15];refine cg (by kernel_rfl) ?_;refine bG [] (rest:=[_,_,_,_,_,_,_,_,_,_]) (sp_Of 3 (by decide)) s21 rfl fun r16 h22 x22=>?_;obtain ⟨d,z22⟩:=uU x22;obtain ⟨rfl,s22⟩:=aM.1 z22;refine bG [3,0] (rest:=[_,_,_,_,_,_,_,_,_]) (sp_Is1 b d _ tr3 (by kernel_rfl) (.inr ⟨b',by kernel_rfl⟩)) s22 rfl fun r17 h23 x23=>?_;obtain ⟨rfl,s23⟩:=aM.1 x23;refine cg rfl ?_;refine sM (i:=5) (sp_plain_Free a1 _) rfl s23 fun r18 h24 s24=>?_;have e18:((r18.len:Int) == 1) = true:=by
  rw [(aX (j:=0) s24 rfl).1]
  kernel_rfl
 exact aw e18 (aT (l:=[_,_,_,_,_,_,_,_,_,_,_]) (aA [0,0,0,0,0,1,1,1,1,1,1] s24 rfl))
theorem sp_Begun11:Sp prog kr [] ai [(etB ET EF)] (fun r=>pa_ (r = true) [(etB ET EF)]):=by
 intro h st;refine wj ?_;unfold ol;exact aW (i:=0) sp_begun11 rfl st fun r h' hr s=>aw hr s
end
section
open Go Mb
theorem calls_nil:∀ (n:Nat) {l:List As} {h:Hp},ah l h->ah (all gQ (replicate n (none:Ptr)) (replicate n (none:Option KC))::l) h
 | 0,_,_,s=>all_nil s
 | n + 1,l,h,s=>by
  have s1:=star_cons (A:=gQ none none) (fun _=>rfl) (calls_nil n s);rw [List.replicate_succ,List.replicate_succ];obtain ⟨h1,h2,d,e,a,h3,h4,d2,e2,b,s'⟩:=s1;subst e2;obtain ⟨d3,d4⟩:=Dj.of_un_right d;exact ⟨un h1 h3,h4,Dj.un_left d4 d2,by rw [e,mC],⟨h1,h3,d3,rfl,a,b⟩,s'⟩
def newI (s:dc) (b n:Nat) (pp pm pe:Ptr) (cs:Sl) (i:Int) (h:Hp):Prop:=∃ (j:Nat) (ts:Sl) (tp:List Ptr),i = j/\j <= n/\tp.length = j/\ah [blk b bj [pv pp,.int .i64 s.fHa,sv ts,pv pm,pv pe,sv cs,sv (⟨none,0,0,none⟩:Sl),.int .i64 0],aO pp (PK.new s),vQ tb ts tp,all dZ tp (replicate j tlb0),iv pm (replicate n []),dU pe ([],replicate n 0),vQ eq cs (replicate n none),all gQ (replicate n none) (replicate n none),vE (⟨none,0,0,none⟩:Sl) []] h
theorem new_round {s:dc} {b n:Nat} {pp pm pe:Ptr} {cs:Sl} (hn8:n <= 8) {i:Int} {h:Hp} (H:newI s b n pp pm pe cs i h) (hi:i < n) :
  (dL (ld (b,2) cS fun x31=>cl prog gS [] fG fun r32=>hpv prog (Instr.buildSlice aZ 1 #[(0,(pv r32))]) cX fun (v33:Sl)=>hpv prog (Builtin.append_ #[aZ,aZ] aZ #[(sv x31),(sv v33)]) cX fun (v34:Sl)=>Mb.st (b,2) [sv v34] fun h'=>newI s b n pp pm pe cs (i64.wrap (i + 1)) h'/\n - (i64.wrap (i + 1)).toNat < n - i.toNat)
  (cl prog gS [] fG fun r32=>ld (b,2) cS fun x31=>hpv prog (Instr.buildSlice aZ 1 #[(0,(pv r32))]) cX fun (v33:Sl)=>hpv prog (Builtin.append_ #[aZ,aZ] aZ #[(sv x31),(sv v33)]) cX fun (v34:Sl)=>Mb.st (b,2) [sv v34] fun h'=>newI s b n pp pm pe cs (i64.wrap (i + 1)) h'/\n - (i64.wrap (i + 1)).toNat < n - i.toNat)) h:=by
 obtain ⟨j,ts,tp,rfl,hj,htp,s6⟩:=H;have hlt:j < n:=by omega
 have hw:i64.wrap ((j:Int) + 1) = ((j + 1:Nat):Int):=by rw [aE (by omega) (by omega)]; rfl
 rw [hw];have fin:∀ (r:Ptr) (v:Sl) (h:Hp),ah [dZ r tlb0,blk b bj [pv pp,.int .i64 s.fHa,sv ts,pv pm,pv pe,sv cs,sv (⟨none,0,0,none⟩:Sl),.int .i64 0],aO pp (PK.new s),vQ tb v (tp++[r]),all dZ tp (replicate j tlb0),iv pm (replicate n []),dU pe ([],replicate n 0),vQ eq cs (replicate n none),all gQ (replicate n none) (replicate n none),vE (⟨none,0,0,none⟩:Sl) []] h ->
   Mb.st (b,2) [sv v] (fun h'=>newI s b n pp pm pe cs ((j + 1:Nat):Int) h'/\n - ((j + 1:Nat):Int).toNat < n - (j:Int).toNat) h:=by
  intro r v h s7;refine mX (i:=1) s7 rfl (Nat.le_of_ble_eq_true rfl) fun h8 s8=>?_;refine ⟨⟨j + 1,v,tp++[r],rfl,hlt,by simp [htp],?_⟩,by simp; omega⟩;have s9:=all_push (by simp [htp]) (aA [0,3] s8 rfl);have e:replicate j tlb0++[tlb0] = replicate (j + 1) tlb0:=List.replicate_succ'.symm;rw [e] at s9;exact aA [1,1,1,0] s9 rfl
 refine ⟨?_,?_⟩
 ·refine aJ ts s6 (i:=0) rfl rfl rfl ?_;refine lW xh s6 fun r h7 s7=>?_;refine iX (τ:=Ptr) (i:=3) (enc:=cP) (val:=fun x=>pv x) el_SPtlb_Tlb fu cP_one (fun _=>rfl) (by omega) rfl rfl s7 rfl (by omega) (by omega) fun v h8 s8=>?_;exact fin r v h8 s8
 ·refine lW xh s6 fun r h7 s7=>?_;refine aJ ts s7 (i:=1) rfl rfl rfl ?_;refine iX (τ:=Ptr) (i:=3) (enc:=cP) (val:=fun x=>pv x) el_SPtlb_Tlb fu cP_one (fun _=>rfl) (by omega) rfl rfl s7 rfl (by omega) (by omega) fun v h8 s8=>?_;exact fin r v h8 s8
theorem new_start {s:dc} {b n:Nat} {pp pm pe:Ptr} {cs:Sl} {h:Hp}
  (st:ah [blk b bj (eI.C (⟨pp,s.fHa,(⟨none,0,0,none⟩:Sl),pm,pe,cs,(⟨none,0,0,none⟩:Sl),0⟩:eI)),aO pp (PK.new s),iv pm (replicate n []),dU pe ([],replicate n 0),vQ eq cs (replicate n none)] h):newI s b n pp pm pe cs 0 h:=by
 have s1:=dp (τ:=aL) (T:=t_api_Event) (m:=16) (enc:=ax.C) (calls_nil n (dp (τ:=Ptr) (T:=tb) (m:=1) (enc:=cP) (all_nil (A:=dZ) st)));exact ⟨0,⟨none,0,0,none⟩,[],rfl,zero_le _,rfl,aA [4,4,2,2,2,2,2,1] s1 rfl⟩
theorem new_end {s:dc} (hs:PK.sized s = true) {b n:Nat} (hn:s.fRa = n) {pp pm pe:Ptr} {cs:Sl} {h:Hp} (H:newI s b n pp pm pe cs n h):ah [bu (some (b,0)) (KK.new s)] h:=by
 obtain ⟨j,ts,tp,hj,hj2,htp,s6⟩:=H;have:j = n:=by omega
 subst this;have ok:=kok_new hs;have e:KK.new s = ⟨PK.new s,replicate j tlb0,replicate j [],([],replicate j 0),replicate j none,[],0⟩:=by unfold KK.new; rw [hn]; rfl
 rw [e] at ok ⊢;exact lV (z:=⟨b,pp,ts,tp,pm,pe,cs,replicate j none,⟨none,0,0,none⟩⟩) ⟨by simpa using htp,by simp⟩ ok s6
theorem sp_kern_New (s:dc) (hs:PK.sized s = true):Sp prog xX [.agg s.C.toArray] sO [] (fun r=>ah [bu r (KK.new s)]):=by
 intro h st;have hz:=cQ.1 hs;obtain ⟨n,hn⟩:=Int.eq_ofNat_of_zero_le (show 0 <= s.fRa by omega);have hn8:n <= 8:=by omega
 refine sim_kern_New _ ?_;unfold sh_kern_New;refine lW (sx s hs) st fun pp h1 s1=>?_;have hpp:pp.isNone = false:=by
  obtain ⟨_,h2,_⟩:=eL s1; rw [h2]; rfl
 refine bB hpp ?_;have mk:∀ {l:List As} {h:Hp} {K:kT Sl},ah l h->(∀ v h',ah (vQ eq v (replicate n none)::l) h'->K v h')->hpv prog (Instr.makeSlice mH (.int .i64 s.fRa) (.int .i64 s.fRa)) qB K h:=by
  intro l h K s2 k;rw [hn];exact nI (τ:=Ptr) (x0:=none) (enc:=cP) (n:=n) (T:=eq) (m:=1) el_SPkern_call rfl s2 (by omega) (by omega) k
 have em:s.fRa.toNat = n:=by omega
 refine ⟨?_,?_⟩
 ·refine lW (sp_mail_New s.fRa (by omega) (by omega)) s1 fun pm h2 s2=>?_;refine ⟨?_,?_⟩
  ·refine lW (sA s.fRa (by omega) (by omega)) s2 fun pe h3 s3=>?_;rw [em] at s3;refine mk s3 fun cs h4 s4=>?_;refine nP s4 fun b h5 s5=>?_;refine Lp.intro (fun (i:Int) h=>newI s b n pp pm pe cs i h) (fun (i:Int) _=>n - i.toNat) (new_start (aA [0,4,3,2,1] s5 rfl)) ?_;intro i h H;unfold kern_New_l1;refine ar (fun d=>new_round hn8 H (by have:=of_decide_eq_true d; omega)) (fun d=>?_);have:i = n:=by obtain ⟨j,_,_,e,hj,_⟩:=H; have:=of_decide_eq_false d; omega
   subst this;exact new_end hs hn H
  ·refine mk s2 fun cs h3 s3=>?_;refine lW (sA s.fRa (by omega) (by omega)) s3 fun pe h4 s4=>?_;rw [em] at s4;refine nP s4 fun b h5 s5=>?_;refine Lp.intro (fun (i:Int) h=>newI s b n pp pm pe cs i h) (fun (i:Int) _=>n - i.toNat) (new_start (aA [0,3,2,0,0] s5 rfl)) ?_;intro i h H;unfold kern_New_l2;refine ar (fun d=>new_round hn8 H (by have:=of_decide_eq_true d; omega)) (fun d=>?_);have:i = n:=by obtain ⟨j,_,_,e,hj,_⟩:=H; have:=of_decide_eq_false d; omega
   subst this;exact new_end hs hn H
 ·refine mk s1 fun cs h2 s2=>?_;refine lW (sp_mail_New s.fRa (by omega) (by omega)) s2 fun pm h3 s3=>?_;refine lW (sA s.fRa (by omega) (by omega)) s3 fun pe h4 s4=>?_;rw [em] at s4;refine nP s4 fun b h5 s5=>?_;refine Lp.intro (fun (i:Int) h=>newI s b n pp pm pe cs i h) (fun (i:Int) _=>n - i.toNat) (new_start (aA [0,3,1,0,0] s5 rfl)) ?_;intro i h H;unfold kern_New_l3;refine ar (fun d=>new_round hn8 H (by have:=of_decide_eq_true d; omega)) (fun d=>?_);have:i = n:=by obtain ⟨j,_,_,e,hj,_⟩:=H; have:=of_decide_eq_false d; omega
  subst this;exact new_end hs hn H
end
section
open Go Mb
attribute [local irreducible] bM gR il Val Tx Tu Tn RV Res br nn ix gd ld st nw cl clv dL Lp ct
def fair_Rounds_l3 (a0:Int) (Rec17:kT (Sl × Int)) (s16:Sl × Int) (x32:Int) (Rec26:kT (Sl × Int)) (s25:Sl × Int):hT:=br (decide (s25.2 < a0)) ( hpv prog (Instr.buildSlice kL 1 #[(0,(.agg (bJ.C (⟨x32,s25.2,0,(⟨0,0,0,0,0⟩:aa),0,0⟩:bJ)).toArray))]) gj fun (v41:Sl)=>hpv prog (Builtin.append_ #[kL,kL] kL #[(sv s25.1),(sv v41)]) gj fun (v42:Sl)=>Rec26 (v42,(i64.wrap (s25.2 + 1)))) ( Rec17 (s25.1,(i64.wrap (s16.2 + 1))))
def fair_Rounds_l2 (a0:Int) (Rec11:kT (Sl × Int)) (s10:Sl × Int) (v27:Sl) (Rec17:kT (Sl × Int)) (s16:Sl × Int):hT:=br (decide (s16.2 < (v27.len:Int))) ( ix v27 s16.2 fun q31=>ld (q31.1,q31.2 + Int.toNat s16.2 * 1) (cI .i64) fun x32=>Lp (fair_Rounds_l3 a0 Rec17 s16 x32) (s16.1,0)) ( Rec11 (s16.1,(i64.wrap (s10.2 + 1))))
def fair_Rounds_l1 (a0:Int) (a1:Int) (K:kT Sl) (Rec11:kT (Sl × Int)) (s10:Sl × Int):hT:=br (decide (s10.2 < a1)) ( hpv prog (Instr.buildSlice aj 2 #[(0,(.int .i64 3)),(1,(.int .i64 2))]) av fun (v27:Sl)=>Lp (fair_Rounds_l2 a0 Rec11 s10 v27) (s10.1,0)) ( K s10.1)
def sh_fair_Rounds (a0:Int) (a1:Int) (K:kT Sl):hT:=br ((((decide (a0 < 1)) || (decide (a0 > 8))) || (decide (a1 < 0))) || (decide (a1 > 500))) ( K (⟨none,0,0,none⟩:Sl)) ( hpv prog (Instr.buildSlice kL 0 #[]) gj fun (v23:Sl)=>Lp (fair_Rounds_l1 a0 a1 K) (v23,0))
theorem sim_fair_Rounds (a0:Int) (a1:Int) {K:kT Sl} {h:Hp} (H:sh_fair_Rounds a0 a1 K h):cl prog vy [(.int .i64 a0),(.int .i64 a1)] gj K h:=have z0:LH (σ:=Sl × Int) 5 0 (fun s10 r=>(5,(sv s10.1))::(25,(.int .i64 s10.2))::r) [5,25] [0,24] (fun _ l=>l):=⟨⟩; have z1:LH (σ:=Sl × Int) 7 0 (fun s16 r=>(5,(sv s16.1))::(29,(.int .i64 s16.2))::r) [5,29] [0,24,25,27,28] (fun _ l=>l):=⟨⟩; have z2:LH (σ:=Sl × Int) 10 0 (fun s25 r=>(5,(sv s25.1))::(34,(.int .i64 s25.2))::r) [5,34] [0,7,24,25,27,28,29,33] (fun _ l=>l):=⟨⟩; J [] func44 H
def fair_Longest_l1 (a0:Sl) (a1:Int) (a2:Int) (K:kT Int) (Rec2:kT (Int × Int × Int)) (s1:Int × Int × Int):hT:=br (decide (s1.2.2 < (a0.len:Int))) ( ix a0 s1.2.2 fun q15=>ld (q15.1,q15.2 + Int.toNat s1.2.2 * 10) bJ.C fun x16=>br ((x16.fFb == a1) && (x16.fOa == a2)) ( Rec2 ((mx s1.1 0),0,(i64.wrap (s1.2.2 + 1)))) ( Rec2 ((mx s1.1 (i64.wrap (s1.2.1 + 1))),(i64.wrap (s1.2.1 + 1)),(i64.wrap (s1.2.2 + 1))))) ( K s1.1)
def sh_fair_Longest (a0:Sl) (a1:Int) (a2:Int) (K:kT Int):hT:=Lp (fair_Longest_l1 a0 a1 a2 K) (0,0,0)
theorem sim_fair_Longest (a0:Sl) (a1:Int) (a2:Int) {K:kT Int} {h:Hp} (H:sh_fair_Longest a0 a1 a2 K h):cl prog oH [(sv a0),(.int .i64 a1),(.int .i64 a2)] cH K h:=have z0:LH (σ:=Int × Int × Int) 3 0 (fun s1 r=>(7,(.int .i64 s1.1))::(8,(.int .i64 s1.2.1))::(13,(.int .i64 s1.2.2))::r) [7,8,13] [1,2,11,12] (fun _ l=>l):=⟨⟩; J [] func102 H
def fair_Fair_l1 (a0:Sl) (a1:Int) (a2:Int) (K:kT Bool) (Rec2:kT Int) (s1:Int):hT:=br (decide (s1 < a1)) ( cl prog oH [(sv a0),(.int .i64 2),(.int .i64 s1)] cH fun r14=>br (!(decide (r14 >= a2))) ( cl prog oH [(sv a0),(.int .i64 3),(.int .i64 s1)] cH fun r20=>br (decide (r20 >= a2)) ( K false) ( Rec2 (i64.wrap (s1 + 1)))) ( K false)) ( K true)
def sh_fair_Fair (a0:Sl) (a1:Int) (a2:Int) (K:kT Bool):hT:=Lp (fair_Fair_l1 a0 a1 a2 K) 0
theorem sim_fair_Fair (a0:Sl) (a1:Int) (a2:Int) {K:kT Bool} {h:Hp} (H:sh_fair_Fair a0 a1 a2 K h):cl prog n_fair_Fair [(sv a0),(.int .i64 a1),(.int .i64 a2)] ai K h:=have z0:LH (σ:=Int) 2 0 (fun s1 r=>(9,(.int .i64 s1))::r) [9] [0,2,8] (fun _ l=>l):=⟨⟩; J [] func48 H
end
section
open Go Mb
abbrev oX:=bJ
abbrev vK (s:Sl) (xs:List oX):As:=vec t_api_Pick 10 bJ.C s xs
theorem pick_len (p:oX):p.C.length = 10:=rfl
theorem pick_one (p:oX):ce p.C = true:=rfl
namespace Fair
def longFrom (kind core:Int):List oX->Int->Int->Int
 | [],best,_=>best
 | p::ps,best,now=>if p.fFb = kind/\p.fOa = core then longFrom kind core ps (mx best 0) 0 else longFrom kind core ps (mx best (i64.wrap (now + 1))) (i64.wrap (now + 1))
def longest (ps:List oX) (kind core:Int):Int:=longFrom kind core ps 0 0
def okCore (ps:List oX) (b:Int) (c:Nat):Bool:=decide (longest ps 2 c < b) && decide (longest ps 3 c < b)
def fair (ps:List oX) (cores b:Int):Bool:=(range cores.toNat).all (okCore ps b)
def pk (kind:Int) (c:Nat):oX:=⟨kind,c,0,⟨0,0,0,0,0⟩,0,0⟩
def line (kind:Int) (c:Nat):List oX:=(range c).map (pk kind)
def lines (c:Nat) (kinds:List Int):List oX:=kinds.flatMap fun k=>line k c
def turns (c n:Nat):List oX:=(range n).flatMap fun _=>lines c [3,2]
def rounds (cores n:Int):List oX:=if cores < 1\/cores > 8\/n < 0\/n > 500 then [] else turns cores.toNat n.toNat
theorem line_len (kind:Int) (c:Nat):(line kind c).length = c:=by simp [line]
theorem line_succ (kind:Int) (c:Nat):line kind (c + 1) = line kind c++[pk kind c]:=by simp [line,List.range_succ]
theorem turns_succ (c n:Nat):turns c (n + 1) = turns c n++lines c [3,2]:=by simp [turns,List.range_succ]
theorem lines_len (c:Nat):∀ (ks:List Int),(lines c ks).length = ks.length * c
 | []=>by simp [lines]
 | k::ks=>by
  have:=lines_len c ks;simp only [lines,List.flatMap_cons,length_append,line_len,List.length_cons,succ_mul] at this ⊢;omega
theorem turns_len (c n:Nat):(turns c n).length = n * (2 * c):=by
 induction n with
 | zero=>simp [turns]
 | succ n ih=>rw [turns_succ,length_append,ih,lines_len,Nat.add_mul n 1,Nat.one_mul]; rfl
end Fair
theorem sp_fair_Longest (s:Sl) (ps:List oX) (kind core:Int) (hb:ps.length < 2 ^ 40):Sp prog oH [sv s,.int .i64 kind,.int .i64 core] cH [vK s ps] (fun r=>pa_ (r = Fair.longest ps kind core) [vK s ps]):=by
 intro h s0;have hl:=(aX (j:=0) s0 rfl).1;refine sim_fair_Longest _ _ _ ?_;unfold sh_fair_Longest;refine Lp.intro (fun (z:Int × Int × Int) h=>∃ n:Nat,z.2.2 = n/\n <= ps.length/\Fair.longFrom kind core (ps.drop n) z.1 z.2.1 = Fair.longest ps kind core/\ah [vK s ps] h) (fun (z:Int × Int × Int) _=>ps.length - z.2.2.toNat) ⟨0,rfl,zero_le _,rfl,s0⟩ ?_;rintro ⟨best,now,i⟩ h ⟨n,rfl,hn,he,s1⟩;unfold fair_Longest_l1;simp only at he ⊢;refine ar (fun k=>?_) (fun k=>?_)
 ·have hlt:n < ps.length:=by rw [hl] at k; simpa using k
  have hw:i64.wrap ((n:Int) + 1) = ((n + 1:Nat):Int):=by rw [aE (by omega) (by omega)]; rfl
  rw [List.drop_eq_getElem_cons hlt,Fair.longFrom] at he;refine bE s1 (j:=0) rfl (by omega) (by omega) fun q hq=>?_;refine bK (j:=0) (i:=n) (k:=0) ps[n] pick_len s1 rfl hq rfl (al hlt) (by simp) ?_;rw [hw];refine ar (fun k2=>?_) (fun k2=>?_)
  ·have k2':ps[n].fFb = kind/\ps[n].fOa = core:=by simpa using k2
   rw [if_pos k2'] at he;exact ⟨⟨n + 1,rfl,hlt,he,s1⟩,by simp; omega⟩
  ·have k2':¬ (ps[n].fFb = kind/\ps[n].fOa = core):=by simpa using k2
   rw [if_neg k2'] at he;exact ⟨⟨n + 1,rfl,hlt,he,s1⟩,by simp; omega⟩
 ·have:n = ps.length:=by rw [hl] at k; simp at k; omega
  subst this;rw [List.drop_length] at he;exact aw he s1
theorem sp_fair_Fair (s:Sl) (ps:List oX) (cores b:Int) (hb:ps.length < 2 ^ 40) (hc:cores < 2 ^ 62):Sp prog n_fair_Fair [sv s,.int .i64 cores,.int .i64 b] ai [vK s ps] (fun r=>pa_ (r = Fair.fair ps cores b) [vK s ps]):=by
 intro h s0;refine sim_fair_Fair _ _ _ ?_;unfold sh_fair_Fair;refine Lp.intro (fun (i:Int) h=>∃ n:Nat,i = n/\n <= cores.toNat/\(∀ c,c < n->Fair.okCore ps b c = true)/\ah [vK s ps] h) (fun (i:Int) _=>cores.toNat - i.toNat) ⟨0,rfl,zero_le _,fun c hc=>by omega,s0⟩ ?_;rintro i h ⟨n,rfl,hn,ho,s1⟩;unfold fair_Fair_l1;refine ar (fun k=>?_) (fun k=>?_)
 ·have hlt:n < cores.toNat:=by have:=of_decide_eq_true k; omega
  have hw:i64.wrap ((n:Int) + 1) = ((n + 1:Nat):Int):=by rw [aE (by omega) (by omega)]; rfl
  have no:Fair.okCore ps b n = false->Fair.fair ps cores b = false:=fun hf=>by
   unfold Fair.fair;cases ha:(range cores.toNat).all (Fair.okCore ps b) with
   | false=>rfl
   | true=>rw [all_eq_true.1 ha n (mem_range.2 hlt)] at hf; cases hf
  refine aW (sp_fair_Longest s ps 2 n hb) (i:=0) rfl s1 fun r h2 hr s2=>?_;subst hr;refine ar (fun k2=>?_) (fun k2=>?_)
  ·have k2':Fair.longest ps 2 n < b:=by simpa using k2
   refine aW (sp_fair_Longest s ps 3 n hb) (i:=0) rfl s2 fun r h3 hr s3=>?_;subst hr;refine ar (fun k3=>?_) (fun k3=>?_)
   ·have k3':¬ Fair.longest ps 3 n < b:=by simp at k3; omega
    exact aw (no (by simp [Fair.okCore,k3'])).symm s3
   ·have k3':Fair.longest ps 3 n < b:=by simp at k3; omega
    rw [hw];refine ⟨⟨n + 1,rfl,hlt,fun c hc=>?_,s3⟩,by simp; omega⟩;by_cases e:c = n
    ·subst e; simp [Fair.okCore,k2',k3']
    ·exact ho c (by omega)
  ·have k2':¬ Fair.longest ps 2 n < b:=by simp at k2; omega
   exact aw (no (by simp [Fair.okCore,k2'])).symm s2
 ·have:n = cores.toNat:=by have:=of_decide_eq_false k; omega
  subst this;refine aw ?_ s1;unfold Fair.fair;exact (all_eq_true.2 fun c hc=>ho c (mem_range.1 hc)).symm
theorem sp_fair_Rounds (cores n:Int):Sp prog vy [.int .i64 cores,.int .i64 n] gj [] (fun r=>ah [vK r (Fair.rounds cores n)]):=by
 intro h s0;refine sim_fair_Rounds _ _ ?_;unfold sh_fair_Rounds;refine ar (fun k=>?_) (fun k=>?_)
 ·have e1:Fair.rounds cores n = []:=if_pos (by simpa [or_assoc] using k);rw [e1]; exact dp s0
 ·have k':¬ (cores < 1\/cores > 8\/n < 0\/n > 500):=by simp at k; omega
  have e1:Fair.rounds cores n = Fair.turns cores.toNat n.toNat:=if_neg k';rw [e1];obtain ⟨C,rfl⟩:=Int.eq_ofNat_of_zero_le (show 0 <= cores by omega);obtain ⟨N,rfl⟩:=Int.eq_ofNat_of_zero_le (show 0 <= n by omega);simp only [Int.toNat_natCast];refine db (τ:=oX) [] (val:=fun x=>.agg x.C.toArray) (enc:=bJ.C) ym pick_len (fun _=>rfl) s0 rfl rfl (by simp) fun v h1 s1=>?_;refine Lp.intro (fun (z:Sl × Int) h=>∃ j:Nat,z.2 = j/\j <= N/\ah [vK z.1 (Fair.turns C j)] h) (fun (z:Sl × Int) _=>N - z.2.toNat) ⟨0,rfl,zero_le _,s1⟩ ?_;rintro ⟨z,i⟩ h ⟨j,rfl,hj,s2⟩;unfold fair_Rounds_l1;refine ar (fun k2=>?_) (fun k2=>?_)
  ·have hlt:j < N:=by have:=of_decide_eq_true k2; simp at this; exact this
   have hw:i64.wrap ((j:Int) + 1) = ((j + 1:Nat):Int):=by rw [aE (by omega) (by omega)]; rfl
   have htl:=Fair.turns_len C j;have hC:C <= 8:=by omega
   have hjb:j * (2 * C) <= 500 * 16:=Nat.mul_le_mul (by omega) (by omega);refine db (τ:=Int) [3,2] (val:=fun x=>.int .i64 x) (enc:=cI .i64) jB (bd _) (fun _=>rfl) s2 rfl rfl (by decide) fun vk h3 s3=>?_;have hvl:=(aX (j:=0) s3 rfl).1;refine Lp.intro (fun (y:Sl × Int) h=>∃ m:Nat,y.2 = m/\m <= 2/\ah [vK y.1 (Fair.turns C j++Fair.lines C (([3,2]:List Int).take m)),vec kv 1 (cI .i64) vk [3,2]] h) (fun (y:Sl × Int) _=>2 - y.2.toNat) ⟨0,rfl,zero_le _,by
    have s4:=aA (m:=[vK z (Fair.turns C j),vec kv 1 (cI .i64) vk [3,2]]) [1] s3 rfl;simpa [Fair.lines] using s4⟩ ?_
   rintro ⟨y,i2⟩ h ⟨m,rfl,hm,s4⟩;unfold fair_Rounds_l2;refine ar (fun k3=>?_) (fun k3=>?_)
   ·have hlt2:m < 2:=by rw [hvl] at k3; have:=of_decide_eq_true k3; simp at this; omega
    have hw2:i64.wrap ((m:Int) + 1) = ((m + 1:Nat):Int):=by rw [aE (by omega) (by omega)]; rfl
    have hkl:m < ([3,2]:List Int).length:=hlt2;refine bE s4 (j:=1) rfl (by omega) (by simp; omega) fun q hq=>?_;refine bK (j:=1) (i:=m) (k:=0) ([3,2]:List Int)[m] (bd _) s4 rfl hq (by simp) (al hkl) (by simp) ?_;have hll:=Fair.lines_len C (([3,2]:List Int).take m);have hlb:(([3,2]:List Int).take m).length * C <= 2 * 8:=Nat.mul_le_mul (by simp; omega) (by omega);refine Lp.intro (fun (x:Sl × Int) h=>∃ p:Nat,x.2 = p/\p <= C/\ah [vK x.1 (Fair.turns C j++Fair.lines C (([3,2]:List Int).take m)++Fair.line ([3,2]:List Int)[m] p),vec kv 1 (cI .i64) vk [3,2]] h) (fun (x:Sl × Int) _=>C - x.2.toNat) ⟨0,rfl,zero_le _,by simpa [Fair.line] using s4⟩ ?_;rintro ⟨x,i3⟩ h ⟨p,rfl,hp,s5⟩;have hpl:=Fair.line_len ([3,2]:List Int)[m] p;unfold fair_Rounds_l3;refine ar (fun k4=>?_) (fun k4=>?_)
    ·have hlt3:p < C:=by have:=of_decide_eq_true k4; simp at this; exact this
     have hw3:i64.wrap ((p:Int) + 1) = ((p + 1:Nat):Int):=by rw [aE (by omega) (by omega)]; rfl
     refine iX (τ:=oX) (i:=0) (enc:=bJ.C) (val:=fun x=>.agg x.C.toArray) (x:=Fair.pk ([3,2]:List Int)[m] p) ym pick_len pick_one (fun _=>rfl) (by omega) rfl rfl s5 rfl (by simp only [length_append]; omega) (by simp only [length_append]; omega) fun v h6 s6=>?_;rw [hw3];refine ⟨⟨p + 1,rfl,hlt3,?_⟩,by simp; omega⟩;rw [Fair.line_succ,← List.append_assoc];exact s6
    ·have:p = C:=by have:=of_decide_eq_false k4; simp at this; omega
     subst this;rw [hw2];refine ⟨⟨m + 1,rfl,hlt2,?_⟩,by simp; omega⟩;have et:([3,2]:List Int).take (m + 1) = ([3,2]:List Int).take m++[([3,2]:List Int)[m]]:=by rw [List.take_add_one,al hkl]; rfl
     have el:Fair.lines p (([3,2]:List Int).take (m + 1)) = Fair.lines p (([3,2]:List Int).take m)++Fair.line ([3,2]:List Int)[m] p:=by
      rw [et]; unfold Fair.lines; rw [List.flatMap_append]; simp
     rw [el,← List.append_assoc];exact s5
   ·have:m = 2:=by rw [hvl] at k3; have:=of_decide_eq_false k3; simp at this; omega
    subst this;rw [hw];refine ⟨⟨j + 1,rfl,hlt,?_⟩,by simp; omega⟩;rw [Fair.turns_succ];exact lD (l:=[vK y (Fair.turns C j++Fair.lines C [3,2])]) s4
  ·have:j = N:=by have:=of_decide_eq_false k2; simp at this; omega
   subst this;exact s2
end
section
open Go Mb
attribute [local irreducible] bM gR il Val Tx Tu Tn RV Res br nn ix gd ld st nw cl clv dL Lp ct
def twin_View_l1 (a0:Sl) (a1:Int) (K:kT Sl) (Rec2:kT (Sl × Int)) (s1:Sl × Int):hT:=br (decide (s1.2 < (a0.len:Int))) ( ix a0 s1.2 fun q12=>ld (q12.1,q12.2 + Int.toNat s1.2 * 16) ax.C fun x13=>br ((x13.fBa == a1) && (decide (x13.fXa > 0))) ( hpv prog (Instr.buildSlice mG 1 #[(0,(.agg (ad.C x13.fCb).toArray))]) mL fun (v26:Sl)=>hpv prog (Builtin.append_ #[mG,mG] mG #[(sv s1.1),(sv v26)]) mL fun (v27:Sl)=>Rec2 (v27,(i64.wrap (s1.2 + 1)))) ( Rec2 (s1.1,(i64.wrap (s1.2 + 1))))) ( K s1.1)
def sh_twin_View (a0:Sl) (a1:Int) (K:kT Sl):hT:=Lp (twin_View_l1 a0 a1 K) ((⟨none,0,0,none⟩:Sl),0)
theorem sim_twin_View (a0:Sl) (a1:Int) {K:kT Sl} {h:Hp} (H:sh_twin_View a0 a1 K h):cl prog n_twin_View [(sv a0),(.int .i64 a1)] mL K h:=have z0:LH (σ:=Sl × Int) 3 0 (fun s1 r=>(5,(sv s1.1))::(10,(.int .i64 s1.2))::r) [5,10] [1,8,9] (fun _ l=>l):=⟨⟩; J [] func41 H
end
section
open Go Mb
abbrev vA (s:Sl) (xs:List bY):As:=vec t_api_Answer 2 ad.C s xs
theorem ans_len (p:bY):p.C.length = 2:=rfl
theorem ans_one (p:bY):ce p.C = true:=rfl
namespace Twin
def view (env:Int):List aL->List bY
 | []=>[]
 | e::es=>if e.fBa = env/\e.fXa > 0 then e.fCb::view env es else view env es
def same:List bY->List bY->Bool
 | [],[]=>true
 | a::l,b::r=>ad.eqb a b && same l r
 | _,_=>false
theorem view_app (env:Int) (e:aL):∀ es,view env (es++[e]) = view env es++(if e.fBa = env/\e.fXa > 0 then [e.fCb] else [])
 | []=>by simp only [List.nil_append,view]
 | d::es=>by
  simp only [List.cons_append,view,view_app env e es];split <;> simp
theorem view_len (env:Int):∀ es,(view env es).length <= es.length
 | []=>Nat.le_refl _
 | e::es=>by unfold view; have:=view_len env es; split <;> simp <;> omega
end Twin
theorem sp_twin_View (s:Sl) (es:List aL) (env:Int) (hb:es.length < 2 ^ 38):Sp prog n_twin_View [sv s,.int .i64 env] mL [vE s es] (fun r=>ah [vA r (Twin.view env es),vE s es]):=by
 intro h s0;have hl:=(aX (j:=0) s0 rfl).1;refine sim_twin_View _ _ ?_;unfold sh_twin_View;refine Lp.intro (fun (z:Sl × Int) h=>∃ n:Nat,z.2 = n/\n <= es.length/\ah [vA z.1 (Twin.view env (es.take n)),vE s es] h) (fun (z:Sl × Int) _=>es.length - z.2.toNat) ⟨0,rfl,zero_le _,dp s0⟩ ?_;rintro ⟨z,i⟩ h ⟨n,rfl,hn,s1⟩;unfold twin_View_l1;refine ar (fun k=>?_) (fun k=>?_)
 ·have hlt:n < es.length:=by rw [hl] at k; simpa using k
  have hw:i64.wrap ((n:Int) + 1) = ((n + 1:Nat):Int):=by rw [aE (by omega) (by omega)]; rfl
  have ht:es.take (n + 1) = es.take n++[es[n]]:=by simp
  refine bE s1 (j:=1) rfl (by omega) (by show (n:Int) < _; omega) fun q hq=>?_;refine bK (j:=1) (i:=n) (k:=0) es[n] fZ s1 rfl hq rfl (al hlt) (by simp) ?_;rw [hw];refine ar (fun k2=>?_) (fun k2=>?_)
  ·have k2':es[n].fBa = env/\es[n].fXa > 0:=by simpa using k2
   have hvl:=Twin.view_len env (es.take n);simp at hvl;refine iX (τ:=bY) (i:=0) (enc:=ad.C) (val:=fun x=>.agg x.C.toArray) el_Sapi_Answer ans_len ans_one (fun _=>rfl) (by omega) rfl rfl s1 rfl (by omega) (by omega) fun v h2 s2=>?_;refine ⟨⟨n + 1,rfl,hlt,?_⟩,by simp; omega⟩;rw [ht,Twin.view_app,if_pos k2'];exact s2
  ·have k2':¬ (es[n].fBa = env/\es[n].fXa > 0):=by simpa using k2
   refine ⟨⟨n + 1,rfl,hlt,?_⟩,by simp; omega⟩;rw [ht,Twin.view_app,if_neg k2',List.append_nil];exact s1
 ·have:n = es.length:=by rw [hl] at k; simp at k; omega
  subst this;rw [List.take_length] at s1;exact s1
end
section
open Go Mb
variable {ET:Nat} {EF:Nat × Nat}
theorem kern_nn {l:List As} {h:Hp} {x:Ptr} {k:KK} (s:ah (bu x k::l) h):x.isNone = false:=nn_of (fun _ e=>by rw [e.1]; rfl) s
namespace B16
abbrev sz:dc:=⟨2,2,3⟩
def r1:=KK.run (KK.new ⟨2,2,3⟩) 0 0 ⟨1,1,0,0,0⟩
def r2:=KK.run r1.2 0 0 ⟨6,4,1,3,0⟩
def r3:=KK.run r2.2 1 0 ⟨21,4,2,9,0⟩
def r4:=KK.run r3.2 0 0 ⟨20,4,2,0,0⟩
def r5:=KK.run r4.2 0 0 ⟨7,4,0,0,0⟩
def es:=r5.2.events
theorem es_len:es.length = 5:=by kernel_rfl
theorem apart:Hist.may es sz = true:=by kernel_rfl
theorem now1:r1.2.now < 1000:=of_decide_eq_true (by kernel_rfl)
theorem now2:r2.2.now < 1000:=of_decide_eq_true (by kernel_rfl)
theorem now3:r3.2.now < 1000:=of_decide_eq_true (by kernel_rfl)
theorem now4:r4.2.now < 1000:=of_decide_eq_true (by kernel_rfl)
theorem now5:r5.2.now < 1000:=of_decide_eq_true (by kernel_rfl)
theorem lin:fKa.linear es sz = (-1,true):=by kernel_rfl
theorem acc:fKa.accesses es sz = (-1,true):=by kernel_rfl
theorem rgt:fKa.right es sz = true:=by kernel_rfl
end B16
theorem ord20 {es:List aL} (s:Sl) (h:es.length <= 20):Hist.Apart es->OrdOk s es:=fun ha=>sp_hist_OrderN s es (by omega) ha
theorem sp_begun16:Sp prog ko [] ai [(etB ET EF)] (fun r=>pa_ (r = true) [(etB ET EF)]):=by
 intro h st;refine wg ?_;unfold og;refine lW (sp_kern_New ⟨2,2,3⟩ (by decide)) st fun x h1 s1=>?_;refine bB (kern_nn s1) ?_;refine aW (i:=0) (sp_Run x _ 0 0 ⟨1,1,0,0,0⟩ (by decide)) rfl s1 fun a1 h2 e1 s2=>?_;refine aW (i:=0) (sp_Run x B16.r1.2 0 0 ⟨6,4,1,3,0⟩ (by have:=B16.now1; omega)) rfl s2 fun a2 h3 e2 s3=>?_;refine aW (i:=0) (sp_Run x B16.r2.2 1 0 ⟨21,4,2,9,0⟩ (by have:=B16.now2; omega)) rfl s3 fun a3 h4 e3 s4=>?_;refine aW (i:=0) (sp_Run x B16.r3.2 0 0 ⟨20,4,2,0,0⟩ (by have:=B16.now3; omega)) rfl s4 fun a4 h5 e4 s5=>?_;refine aW (i:=0) (sp_Run x B16.r4.2 0 0 ⟨7,4,0,0,0⟩ (by have:=B16.now4; omega)) rfl s5 fun a5 h6 e5 s6=>?_;refine sM (i:=0) (tc x B16.r5.2 (by have:=B16.now5; omega)) rfl s6 fun s h7 s7=>?_;have hes:B16.es.length < 2 ^ 38:=by rw [B16.es_len]; decide
 have hes20:B16.es.length <= 20:=by rw [B16.es_len]; decide
 refine aW (i:=0) (sp_judge_Linear s B16.es B16.sz (by decide) hes (ord20 s hes20)) rfl s7 fun r1 h8 f1 s8=>?_;refine aW (i:=0) (sp_judge_Access s B16.es B16.sz (by decide) hes (ord20 s hes20)) rfl s8 fun r2 h9 f2 s9=>?_;refine lW (sp_fair_Rounds 2 3) s9 fun t h10 s10=>?_;refine aW (i:=3) sp_Begun11 rfl s10 fun r3 h11 f3 s11=>?_;have hl:((s.len:Int) == 5) = true:=by rw [(aX (j:=1) s11 rfl).1]; kernel_rfl
 have htl:((t.len:Int) == 12) = true:=by rw [(aX (j:=0) s11 rfl).1]; kernel_rfl
 have g1:a1 = B16.r1.1:=e1.1;have g2:a2 = B16.r2.1:=e2.1;have g3:a3 = B16.r3.1:=e3.1;have g4:a4 = B16.r4.1:=e4.1;have g5:a5 = B16.r5.1:=e5.1;rw [B16.lin] at f1;rw [B16.acc] at f2;rw [f1,f2,f3,g1,g2,g3,g4,g5,hl];refine cg (by kernel_rfl) ?_;refine aW (i:=1) (sp_hist_May s B16.es B16.sz hes) rfl s11 fun r4 h12 f4 s12=>?_;refine cg (f4.trans B16.apart) ?_;refine sM (i:=1) (sp_hist_Order20 s B16.es hes20 (Hist.may_apart B16.apart)) rfl s12 fun o h13 s13=>?_;have hol:((o.len:Int) == 5) = true:=by rw [(aX (j:=0) s13 rfl).1]; kernel_rfl
 refine cg (by rw [hol,htl]; rfl) ?_;refine aW (i:=1) (sp_fair_Fair t _ 2 5 (by decide) (by decide)) rfl s13 fun r5 h14 f5 s14=>?_;refine cg (f5.trans (by kernel_rfl)) ?_;refine sM (i:=2) (sp_twin_View s B16.es 0 hes) rfl s14 fun v h15 s15=>?_;have hvl:((v.len:Int) == 5) = true:=by rw [(aX (j:=0) s15 rfl).1]; kernel_rfl
 refine cg hvl ?_;refine aW (i:=3) (sp_judge_Right s B16.es B16.sz (by decide) hes (ord20 s hes20)) rfl s15 fun r6 h16 f6 s16=>?_;exact aw (f6.trans B16.rgt) (aT (l:=[_,_,_,_,_]) s16)
end
section
open Go Mb
theorem star_imp {l:List As} {i:Nat} {A B:As} {h:Hp} (hi:l[i]? = some A) (ab:∀ h,A h->B h) (s:ah l h):ah (l.set i B) h:=by
 obtain ⟨h1,h2,d,e,a,s'⟩:=eu hi s;exact cO (List.getElem?_eq_some_iff.1 hi).1 ⟨h1,h2,d,e,ab _ a,s'⟩
theorem sliceTo_v {τ:Type} {P:Program} {l:List As} {h:Hp} {S T m bys i:Nat} {z:List Value} {enc:τ->List Value} {R:Sl->Value} {s:Sl} {xs:List τ} {n:Nat} {K:Sl->Hp->Prop} (E:El P S T m bys z) (he:∀ x,(enc x).length = m) (hR:R = sv) (st:ah l h) (hi:l[i]? = some (vec T m enc s xs)) (hn:n <= xs.length)
  (k:∀ v,v.len = n->(∀ h',vec T m enc v (xs.take n) h'->vec T m enc s xs h')->ah (l.set i (vec T m enc v (xs.take n))) h->K v h):hpv P (Instr.sliceAt S (sv s) none (some (.int .i64 n)) none) R K h:=by
 subst hR;have hilt:=(List.getElem?_eq_some_iff.1 hi).1;obtain ⟨e1,_⟩:=aX st hi;have hcap:s.len <= s.cap:=by
  obtain ⟨_,⟨_,e2,_⟩,_⟩:=cL hi st;exact e2
 have fin:∀ (v:Sl),v.a = s.a->v.len = n->v.cap = s.cap->(∀ h',vec T m enc v (xs.take n) h'->vec T m enc s xs h')->ah (l.set i (vec T m enc v (xs.take n))) h->hpv P (Instr.sliceAt S (sv s) none (some (.int .i64 n)) none) sv K h:=by
  intro v va vl vc vb vs;have ev:sv (sub m s 0 n) = sv v:=by
   unfold sub sv;rw [va,vl,vc];cases s.a with
   | none=>split <;> rfl
   | some q=>simp [pa]
  have H:=slice_raw (P:=P) (h:=h) (m:=m) (s:=s) (lo:=0) (hi:=n) (vlo:=none) (vhi:=some (.int .i64 n)) (R:=sv) (K:=fun r h'=>sv r = sv v/\h' = h) E rfl (.inr ⟨rfl,rfl⟩) (.inl rfl) (zero_le _) (by omega) ⟨ev,rfl⟩;exact ⟨hp_mono _ (fun x h' ⟨r,e,e2,e3⟩=>⟨v,e.trans e2,by subst e3; exact k v vl vb vs⟩) _ H.go⟩
 obtain ⟨g1,g2,d,rfl,⟨f1,f2,f3⟩,s'⟩:=eu hi st;rcases f3 with f3 | ⟨b,pre,rest,U,fr,f4,f5,f6,f7⟩
 ·refine fin ⟨s.a,n,s.cap,none⟩ rfl rfl rfl (fun h' _=>⟨f1,f2,.inl f3⟩) (cO hilt ⟨g1,g2,d,rfl,⟨?_,?_,.inl f3⟩,s'⟩)
  ·show n = _; simp; omega
  ·show n <= s.cap; omega
 ·have hfl:(xs.take n).flatMap enc++((xs.drop n).flatMap enc++rest) = xs.flatMap enc++rest:=by
   rw [← List.append_assoc,← List.flatMap_append,take_append_drop]
  have hdl:((xs.drop n).flatMap enc).length = (xs.length - n) * m:=by rw [bR he]; simp
  refine fin ⟨s.a,n,s.cap,some (pre,(xs.drop n).flatMap enc++rest,U,fr)⟩ rfl rfl rfl ?_ (cO hilt ⟨g1,g2,d,rfl,⟨?_,?_,.inr ⟨b,pre,(xs.drop n).flatMap enc++rest,U,fr,f4,?_,⟨rfl,(show nf fr pre.length (s.cap * m) from gh_nf f6)⟩,?_⟩⟩,s'⟩)
  ·rintro h' ⟨a1,a2,a3⟩;refine ⟨f1,f2,?_⟩;rcases a3 with a3 | ⟨b',pre',rest',U',fr',c1,c2,c3,c4⟩
   ·exact .inl a3
   ·refine .inr ⟨b,pre,rest,U,fr,f4,f5,f6,?_⟩;obtain ⟨c5,_⟩:=c3;simp only [Prod.mk.injEq] at c5;obtain ⟨rfl,rfl,rfl,rfl⟩:=c5;have c1':s.a = some (b',pre.length):=c1;rw [f4] at c1';simp only [Option.some.injEq,Prod.mk.injEq] at c1';obtain ⟨rfl,_⟩:=c1';rw [hfl] at c4;exact c4
  ·show n = _; simp; omega
  ·show n <= s.cap; omega
  ·show s.cap * m <= n * m + _;rw [length_append,hdl,Nat.sub_mul];have:n * m <= xs.length * m:=Nat.mul_le_mul_right m hn;rw [f1] at f5;omega
  ·rw [hfl]; exact f7
end
section
open Go Mb
theorem sp_Cut (s:Sl) (ps:List oX) (n:Int) (hn:0 <= n) (hn2:n < 2 ^ 40):Sp prog my [sv s,.int .i64 n] gj [vK s ps] (fun r=>pa_ (∀ h',vK r (ps.take n.toNat) h'->vK s ps h') [vK r (ps.take n.toNat)]):=by
 intro h st;refine sim_messuagelaw16_Cut _ _ ?_;unfold rd;have hl:=(aX (j:=0) st rfl).1;have hm:mn (s.len:Int) n = ((min ps.length n.toNat:Nat):Int):=by unfold mn; rw [hl]; split <;> omega
 rw [hm];refine sliceTo_v (i:=0) ym pick_len rfl st rfl (Nat.min_le_left _ _) fun v _ hb s1=>?_;have ht:ps.take (min ps.length n.toNat) = ps.take n.toNat:=by
  rcases Nat.le_total ps.length n.toNat with h1 | h1
  ·rw [Nat.min_eq_left h1,List.take_of_length_le (Nat.le_refl _),List.take_of_length_le h1]
  ·rw [Nat.min_eq_right h1]
 rw [ht] at hb s1;exact aw hb s1
end
section
open Go Mb Go.ChangeShapes Go.WideShapes Go.RowKit
theorem Tryz.own:ownKnob prog.godebug = none:=by kernel_rfl
theorem Tryz.et:prog.globalNamed "errors.errorType" = some 0:=by kernel_rfl
theorem Tryz.rt:(prog.cutTypes.find? (·.1 == "internal/reflectlite.rtype")).map (·.2) = some rL:=by kernel_rfl
abbrev laid:List (String × DataW Unit) := [("errors.errorType",Rows.laid_errors_errorType)]
theorem block_of_laid {W:World} (h:laidMetH prog laid W):∃ T F,W.heap[0]? = some (.cells #[rtV fy] T F):=by
 have h':laidMet prog [] W/\handlesMet prog laid W:=h;obtain ⟨name,u,ty,e1,e2,e3,e4,e5⟩:=h'.2 _ (List.mem_singleton.2 rfl);have en:name = [101,114,114,111,114]:=(Option.some.inj e1).symm;subst en;obtain rfl:=Option.some.inj (Tryz.rt.symm.trans e2);have hm:ty ∈ (range 359).filter fun t=>prog.rowNamed t [101,114,114,111,114]:=List.mem_filter.2 ⟨mem_range.2 (by rw [← g4]; exact e3),e4⟩;rw [oneErr] at hm;obtain rfl:=List.mem_singleton.1 hm;have hh:typeHandle prog 206 = .pointer (some ⟨4,206,none⟩):=by kernel_rfl
 rw [hh] at e5;unfold World.var? at e5;rw [Tryz.et] at e5;simp only [Option.bind_some] at e5;split at e5
 ·rename_i cs T F hq;cases e5;exact ⟨T,F,hq⟩
 ·cases e5
noncomputable def laidWorld (os:Os):World :=
 let w0:=World.holding prog os ⟨#[],#[],[]⟩
 { w0 with heap:=w0.heap.modify 0 fun
   | .cells _ t frozen=>.cells #[rtV fy] t frozen
   | o=>o }
theorem laidWorld_met (os:Os) (args:Array Value):laidMetH prog laid ((laidWorld os).forCall (fun _ _=>0) ⟨#[],args,[]⟩).memory :=
 laidMetH_of_parts (laidMet_nil _ _) (by kernel_rfl)
theorem keptBut_same {w w':World} {may:MemPlace->Prop} (h1:w'.os = w.os) (h2:w'.output = w.output) (h:∀ i,i < w.heap.size->w'.heap[i]? = w.heap[i]?):w.keptBut w' may:=by
 refine ⟨h1,h2,fun i hi=>?_⟩;have:=(World.keptBut_refl w may).2.2 i hi;rw [h i hi];exact this
def kindsB (P:Program) (fn:Func) (c:OpenClaim):Bool:=c.kinds == (if c.domain.isEmpty then [] else fn.params.toList.map fun t=>match P.underlying t with | some (.int k)=>some k | _=>none)
theorem joined_split {P:Program} {f:FuncId} {fn:Func} {s:ChangeSpec} {c:OpenClaim} (h1:(c.wf (OpenSpec.ofChange s) && laidOutB P && mapsRowed P) = true)
  (h2:(fn.params.all (P.readableRec ·) && namedTie P c.named s.vars && (c.stops == []) && (P.stops == []) && (c.knobs == []) && (P.stopKnobs == [])) = true)
  (h3:(c.inPlace == P.inPlace f) = true) (h4:(c.unfollowed == P.unfollowed f) = true) (h5:(c.recurses == P.recurses f) = true) (h6:(c.named == P.varsNamed f) = true)
  (h7:((c.maps == (fn.params.toList++s.plain.varTypes P).any (P.mapsRec ·)) && (c.ifaces == (fn.params.toList++s.plain.varTypes P).any (P.ifacesRec ·)) && (c.mapsOut == P.mapsAmong fn.resultTypes.toList) &&
 (c.loops == (fn.params.toList++s.plain.varTypes P).any (P.loopsFrom ·)) && (c.wideKeys == (fn.params.toList++s.plain.varTypes P++fn.resultTypes.toList).any (P.wideKeysFrom ·)) &&
 s.vars.all (P.varReadable ·) && fn.resultTypes.all (fun t=>P.readableRec t && decide (t < P.types.size)) && (c.ifacesOut == fn.resultTypes.toList.any (P.ifacesRec ·)) && (c.loopsOut == fn.resultTypes.toList.any (P.loopsFrom ·))) = true)
  (h8:(c.plainKeys == P.plainKeys) = true) (h9:(c.shortTexts.isNone && P.stopsHeard && P.mayEnter && (c.lifted == P.liftsFinal) && (P.make == some c.make) && kindsB P fn c && (c.pinned == c.pinnedBy) &&
 (c.veiled == (fn.params.toList++s.plain.varTypes P++fn.resultTypes.toList).any (P.veiledRec ·)) && c.veiledFits P fn.params.toList (fn.params.toList++s.plain.varTypes P++fn.resultTypes.toList)) = true):joinedFacts P f fn s c = true:=by
 unfold joinedFacts;unfold kindsB at h9;rw [and_eq_true] at h1 h2 h7 h9;simp only [and_eq_true] at h1 h2 h7 h9;obtain ⟨⟨a1,a2⟩,a3⟩:=h1;obtain ⟨⟨⟨⟨⟨b1,b2⟩,b3⟩,b4⟩,b5⟩,b6⟩:=h2;obtain ⟨⟨⟨⟨⟨⟨⟨⟨c1,c2⟩,c3⟩,c4⟩,c5⟩,c6⟩,c7⟩,c8⟩,c9⟩:=h7;obtain ⟨⟨⟨⟨⟨⟨⟨⟨d1,d2⟩,d3⟩,d4⟩,d5⟩,d6⟩,d7⟩,d8⟩,d9⟩:=h9;simp only [and_eq_true];exact ⟨⟨⟨⟨⟨⟨⟨⟨⟨⟨⟨⟨⟨⟨⟨⟨⟨⟨⟨⟨⟨⟨⟨⟨⟨⟨⟨⟨⟨⟨⟨a1,a2⟩,a3⟩,b1⟩,b2⟩,b3⟩,b4⟩,b5⟩,b6⟩,h3⟩,h4⟩,h5⟩,h6⟩,c1⟩,c2⟩,c3⟩,c4⟩,c5⟩,c6⟩,c7⟩,c8⟩,c9⟩,h8⟩,d1⟩,d2⟩,d3⟩,d4⟩,d5⟩,d6⟩,d7⟩,d8⟩,d9⟩
end
section
open Go Mb Go.ChangeShapes Go.WideShapes Go.RowKit
inductive FK where
 | i (k:IntKind)
 | b
def FK.ok:FK->Value->Prop
 | .i k,v=>∃ n,v = .int k n/\(Lit.int k n).wf = true
 | .b,v=>∃ x,v = .bool x
def rx:List FK->List Value->Prop
 | [],[]=>True
 | k::ks,v::vs=>k.ok v/\rx ks vs
 | _,_=>False
theorem rx.app:∀ {ks ls:List FK} {vs ws:List Value},rx ks vs->rx ls ws->rx (ks++ls) (vs++ws)
 | [],_,[],_,_,h=>h
 | _::_,_,_::_,_,h,g=>⟨h.1,h.2.app g⟩
 | [],_,_::_,_,h,_=>h.elim
 | _::_,_,[],_,h,_=>h.elim
theorem rx.len:∀ {ks:List FK} {vs:List Value},rx ks vs->vs.length = ks.length
 | [],[],_=>rfl
 | _::_,_::_,h=>by simp [h.2.len]
 | [],_::_,h=>h.elim
 | _::_,[],h=>h.elim
def fldK (P:Program) (r:TypeId->Option (List FK)):Nat->List Field->Option (List FK)
 | _,[]=>some []
 | o,f::fs=>if f.offset = o then (r f.type).bind fun ks=>if ks.length = P.cellsOf f.type then (fldK P r (o + ks.length) fs).map (ks++·) else none else none
def flatK (P:Program):Nat->TypeId->Option (List FK)
 | 0,_=>none
 | n + 1,t=>match P.underlying t with
  | some (.int k)=>some [.i k]
  | some .bool=>some [.b]
  | some (.struct fs)=>(fldK P (flatK P n) 0 fs.toList).bind fun ks=>if ks.length = P.cellsOf t then some ks else none
  | some (.array m e)=>(flatK P n e).bind fun ks=>if ks.length = P.cellsOf e/\m * ks.length = P.cellsOf t then some (replicate m ks).flatten else none
  | _=>none
section
variable {H:Type} {enc:TypeId × Value->H} {P:Program} {W:World} {base:Nat} {sp:Nat->Bool} {held:Bool}
theorem trod_array {t e m fuel:Nat} {cs:List Value} {x:DataW H × List MemPlace} (ht:P.underlying t = some (.array m e)) (h:DataW.trod enc P W base sp held fuel t cs = some x) :
  ∃ (xs:List (DataW H × List MemPlace)) (n:Nat),fuel = n + 1/\x = (.agg (xs.map (·.1)),xs.flatMap (·.2))/\cs.length = P.cellsOf t/\xs.length = m /\
   ∀ i,i < m->DataW.trod enc P W base sp held n e ((cs.drop (i * P.cellsOf e)).take (P.cellsOf e)) = xs[i]?:=by
 cases fuel with
 | zero=>simp [DataW.trod] at h
 | succ n =>
  unfold DataW.trod at h;rw [ht] at h;split at h <;> simp_all;obtain ⟨hl,xs,hp,hd⟩:=h;refine ⟨xs,hd.symm,by simpa using mapM_some_length hp,fun i hi=>mapM_some_get hp i i (by simp [hi])⟩
theorem flatMap_nil {α β:Type} {f:α->List β} {xs:List α} (h:∀ x ∈ xs,f x = []):xs.flatMap f = []:=by
 rw [List.flatMap_eq_nil_iff]; exact h
theorem take_drop_take (cs:List Value) (o n:Nat):(cs.drop o).take n++cs.drop (o + n) = cs.drop o:=by
 rw [← drop_drop,take_append_drop]
theorem fld_fits {r:TypeId->Option (List FK)} {cs:List Value} {g:TypeId->List Value->Option (DataW H × List MemPlace)} (hr:∀ t ks cs x,r t = some ks->g t cs = some x->rx ks cs/\x.2 = []) :
  ∀ (fs:List Field) (o:Nat) (ks:List FK),fldK P r o fs = some ks->(∀ f ∈ fs,∃ x,g f.type ((cs.drop f.offset).take (P.cellsOf f.type)) = some x)->o + ks.length = cs.length->rx ks (cs.drop o)
 | [],o,ks,h,_,hl=>by
  simp only [fldK,Option.some.injEq] at h;subst h;have:cs.drop o = []:=List.drop_eq_nil_of_le (by simp at hl; omega);rw [this]; trivial
 | f::fs,o,ks,h,hx,hl=>by
  unfold fldK at h;split at h
  ·rename_i ho;obtain ⟨ks1,h1,h2⟩:=bind_eq_some_iff.1 h;split at h2
   ·rename_i hc;obtain ⟨ks2,h3,rfl⟩:=Option.map_eq_some_iff.1 h2;obtain ⟨x,hx1⟩:=hx f (by simp);have f1:=(hr _ _ _ _ h1 hx1).1;have f2:=fld_fits hr fs (o + ks1.length) ks2 h3 (fun f' hf'=>hx f' (by simp [hf'])) (by simp at hl; omega);rw [ho,← hc] at f1;have:=f1.app f2
    rwa [take_drop_take] at this
   ·cases h2
  ·cases h
theorem arr_fits {ks:List FK} {c:Nat} (hc:ks.length = c):∀ (m:Nat) (cs:List Value),cs.length = m * c->(∀ i,i < m->rx ks ((cs.drop (i * c)).take c))->rx (replicate m ks).flatten cs
 | 0,cs,hl,_=>by
  have:cs = []:=List.eq_nil_of_length_eq_zero (by simpa using hl);subst this; trivial
 | m + 1,cs,hl,h=>by
  rw [List.replicate_succ,List.flatten_cons];have h0:=h 0 (by omega);simp only [Nat.zero_mul,List.drop_zero] at h0;have h1:=arr_fits hc m (cs.drop c) (by rw [List.length_drop,hl,succ_mul]; omega) (fun i hi=>by
   have:=h (i + 1) (by omega)
   rwa [drop_drop,Nat.add_comm,← succ_mul])
  have:=h0.app h1
  rwa [take_append_drop] at this
theorem trod_flat:∀ (n t:Nat) (ks:List FK),flatK P n t = some ks->∀ (fuel:Nat) (cs:List Value) (x:DataW H × List MemPlace),DataW.trod enc P W base sp held fuel t cs = some x->rx ks cs/\x.2 = []
 | 0,_,_,h,_,_,_,_=>by cases h
 | n + 1,t,ks,h,fuel,cs,x,hx=>by
  have ih:=trod_flat n;unfold flatK at h;split at h
  ·rename_i k hu;cases h;obtain ⟨m,rfl,rfl,hw⟩:=DataW.trod_int hu hx;exact ⟨⟨⟨m,rfl,hw⟩,trivial⟩,rfl⟩
  ·rename_i hu;cases h;obtain ⟨b,rfl,rfl⟩:=DataW.trod_bool hu hx;exact ⟨⟨⟨b,rfl⟩,trivial⟩,rfl⟩
  ·rename_i fs hu;obtain ⟨ks',h1,h2⟩:=bind_eq_some_iff.1 h;split at h2
   ·rename_i hc;cases h2;obtain ⟨xs,f,rfl,rfl,hl,hxl,hi⟩:=DataW.trod_struct hu hx;have hall:∀ fl ∈ fs.toList,∃ x,DataW.trod enc P W base sp held f fl.type ((cs.drop fl.offset).take (P.cellsOf fl.type)) = some x:=by
     intro fl hfl;obtain ⟨i,hi1,hi2⟩:=List.getElem_of_mem hfl;have:=hi i fl (by rw [← Array.getElem?_toList,getElem?_eq_getElem hi1,hi2]);have hlt:i < xs.length:=by rw [hxl]; simpa using hi1
     rw [getElem?_eq_getElem hlt] at this;exact ⟨_,this⟩
    refine ⟨?_,flatMap_nil fun y hy=>?_⟩
    ·have:=fld_fits (P:=P) (cs:=cs) (fun t ks cs x h=>ih t ks h f cs x) fs.toList 0 ks h1 hall (by rw [hc,hl]; omega);simpa using this
    ·obtain ⟨i,hi1,rfl⟩:=List.getElem_of_mem hy;have hif:i < fs.size:=by rw [← hxl]; exact hi1
     have h3:=hi i fs[i] (by simp [hif]);rw [getElem?_eq_getElem hi1] at h3;have key:∀ (l:List Field) (o:Nat) (ks:List FK),fldK P (flatK P n) o l = some ks->∀ fl ∈ l,∃ ks,flatK P n fl.type = some ks:=by
      intro l
      induction l with
      | nil=>intro _ _ _ fl h; cases h
      | cons a l ihl =>
       intro o ks hk fl hfl;unfold fldK at hk;split at hk
       ·obtain ⟨k1,hk1,hk2⟩:=bind_eq_some_iff.1 hk;rcases List.mem_cons.1 hfl with rfl | hfl
        ·exact ⟨_,hk1⟩
        ·split at hk2
         ·obtain ⟨k2,hk3,_⟩:=Option.map_eq_some_iff.1 hk2;exact ihl _ _ hk3 fl hfl
         ·cases hk2
       ·cases hk
     obtain ⟨ks2,hks2⟩:=key _ _ _ h1 fs[i] (by simp);exact (ih _ _ hks2 _ _ _ h3).2
   ·cases h2
  ·rename_i m e hu;obtain ⟨ks',h1,h2⟩:=bind_eq_some_iff.1 h;split at h2
   ·rename_i hc;cases h2;obtain ⟨xs,f,rfl,rfl,hl,hxl,hi⟩:=trod_array hu hx;have hat:∀ i,i < m->∃ x,xs[i]? = some x/\DataW.trod enc P W base sp held f e ((cs.drop (i * P.cellsOf e)).take (P.cellsOf e)) = some x:=fun i him=>by
     have:=hi i him;rw [getElem?_eq_getElem (by omega)] at this;exact ⟨_,getElem?_eq_getElem (by omega),this⟩
    refine ⟨arr_fits (by exact hc.1) m cs (by rw [hl,← hc.2,hc.1]) (fun i him=>?_),flatMap_nil fun y hy=>?_⟩
    ·obtain ⟨x,_,hx2⟩:=hat i him;exact (ih _ _ h1 _ _ _ hx2).1
    ·obtain ⟨i,hi1,rfl⟩:=List.getElem_of_mem hy;obtain ⟨x,hx1,hx2⟩:=hat i (by omega);rw [getElem?_eq_getElem hi1] at hx1;cases hx1;exact (ih _ _ h1 _ _ _ hx2).2
   ·cases h2
  ·cases h
end
structure Arg {τ:Type} (W:World) (m:Nat) (enc:τ->List Value) (s:Sl) (xs:List τ):Prop where
 len:s.len = xs.length
 cap:s.len <= s.cap
 row:s.cap = 0\/∃ b pre rest U fr,s.a = some (b,pre.length)/\s.cap * m <= s.len * m + rest.length/\s.g = some (pre,rest,U,fr)/\nf fr pre.length (s.cap * m)/\b ≠ 0/\W.heap[b]? = some (.cells (pre++(xs.flatMap enc++rest)).toArray U fr)
section
variable {H:Type} {enc:TypeId × Value->H} {P:Program} {W:World}
theorem has_spot {r:Reach} {b0:Nat} {t e:TypeId} {a:Addr} {len cap:Nat} (ht:P.underlying t = some (.slice e)) (h:Value.okWide P W r b0 t (.slice (some a) len cap)):a.spot = none/\∃ c T fr,W.heap[a.block]? = some (.cells c T fr):=by
 unfold Value.okWide at h;rw [ht] at h;unfold Cell.okWide at h;rw [ht] at h;simp only at h;unfold Cell.ok at h;rw [ht] at h;simp only at h;obtain ⟨_,_,_,hs,row,cells,h1,_⟩:=h;refine ⟨hs,?_⟩;unfold World.shape? at h1;split at h1
 ·rename_i c T fr hq;exact ⟨_,_,_,hq⟩
 ·cases h1
theorem open_arg {τ:Type} {b0 m:Nat} {t e:TypeId} {ks:List FK} {enc':τ->List Value} {v:Value} {d:DataW H} {ps:List MemPlace} {ET:Nat} {EF:Nat × Nat} {X:Value} (ht:P.underlying t = some (.slice e)) (hm:P.cellsOf e = m) (hk:flatK P 9 e = some ks) (hpos:0 < m)
  (dec:∀ cs,rx ks cs->∃ x:τ,enc' x = cs) (hval:Value.okWide P W .any b0 t v) (hd:DataW.Trod enc P W 0 (fun _=>true) true t v d ps) (hz:W.noneFrozen ps)
  (hw:W.heap[0]? = some (.cells #[X] ET EF)) (hX:∀ k,¬ FK.ok k X):∃ (s:Sl) (xs:List τ),v = sv s/\Arg W m enc' s xs:=by
 obtain ⟨a0,len0,jd,rfl⟩:=okWide_slice ht hval;obtain ⟨fuel,hf⟩:=hd;rcases Go.Deep.open_slice ht hf with ⟨h1,_⟩ | ⟨a,len,cap,mm,n,D,Pl,h1,_,hl,_,hmm,hx,hi⟩
 ·simp only [Value.cells,List.cons.injEq,Value.slice.injEq,and_true] at h1;obtain ⟨rfl,rfl,rfl⟩:=h1;exact ⟨⟨none,0,0,none⟩,[],rfl,rfl,Nat.le_refl _,.inl rfl⟩
 ·simp only [Value.cells,List.cons.injEq,Value.slice.injEq,and_true] at h1;obtain ⟨rfl,rfl,rfl⟩:=h1;simp only [if_true] at hmm;subst hmm;obtain ⟨hs,c,T,fr,hb⟩:=has_spot ht hval;obtain ⟨b,off,spot⟩:=a;simp only at hs hb;subst hs;by_cases hc0:mm = 0
  ·subst hc0;obtain rfl:len0 = 0:=by omega
   exact ⟨⟨some (b,off),0,0,none⟩,[],rfl,rfl,Nat.le_refl _,.inl rfl⟩
  rw [hm] at hi hx;have kG:∀ i,i < mm->∃ x:τ,(enc' x).length = m/\rx ks (enc' x)/\∀ j,j < m->c.toList[off + i * m + j]? = (enc' x)[j]?:=by
   intro i him;obtain ⟨cs',h2,h3⟩:=hi i him;obtain ⟨_,hlen,hget⟩:=World.cells?_some h2;have hfit:=(trod_flat 9 e ks hk _ _ _ h3).1;obtain ⟨x,rfl⟩:=dec cs' hfit;refine ⟨x,hlen,hfit,fun j hj=>?_⟩;have:=hget j hj;rw [WideShapes.add_plain,WideShapes.add_plain] at this;rw [← this];unfold World.cell?;rw [hb];simp
  have hsize:off + mm * m <= c.toList.length:=by
   obtain ⟨x,hxl,_,hj⟩:=kG (mm - 1) (by omega);have h4:=hj (m - 1) (by omega);have h5:=(List.getElem?_eq_some_iff.1 (h4.trans (getElem?_eq_getElem (by omega)))).1;have:mm * m = (mm - 1) * m + m:=by rw [← succ_mul]; congr 1; omega
   omega
  have hflat:∀ k,k <= mm->∃ ys:List τ,ys.length = k/\(c.toList.drop off).take (k * m) = ys.flatMap enc':=by
   intro k
   induction k with
   | zero=>exact fun _=>⟨[],rfl,by simp⟩
   | succ k ih =>
    intro hk1;obtain ⟨ys,hy1,hy2⟩:=ih (by omega);obtain ⟨x,hxl,_,hj⟩:=kG k (by omega);refine ⟨ys++[x],by simp [hy1],?_⟩;rw [succ_mul,List.take_add,hy2,List.flatMap_append]
    congr 1
    simp only [List.flatMap_cons,List.flatMap_nil,List.append_nil];apply List.ext_getElem?;intro j;rw [drop_drop,List.getElem?_take,List.getElem?_drop];by_cases hjm:j < m
    ·rw [if_pos hjm,← hj j hjm]
    ·rw [if_neg hjm,List.getElem?_eq_none (by omega)]
  obtain ⟨xs,hx1,hx2⟩:=hflat len0 hl;have hlm:len0 * m <= mm * m:=Nat.mul_le_mul_right m hl;refine ⟨⟨some (b,off),len0,mm,some (c.toList.take off,c.toList.drop (off + len0 * m),T,fr)⟩,xs,rfl,hx1.symm,hl,.inr ⟨b,c.toList.take off,c.toList.drop (off + len0 * m),T,fr,?_,?_,rfl,?_,?_,?_⟩⟩
  ·rw [List.length_take,Nat.min_eq_left (by omega)]
  ·show mm * m <= len0 * m + _;rw [List.length_drop]; omega
  ·rw [List.length_take,Nat.min_eq_left (by omega)];intro j j1 j2;have j2':j < off + mm * m:=j2;have hp:MemPlace.cell b j ∈ ps:=by
    have hps:=congrArg Prod.snd hx;simp only at hps;rw [hps];refine List.mem_append_left _ (List.mem_map.2 ⟨j - off,mem_range.2 (by omega),?_⟩);show MemPlace.cell b (off + (j - off)) = _
    congr 1; omega
   have:=hz b j hp;unfold World.frozen? at this;simp only [hb] at this;exact this
  ·rintro rfl;rw [hw] at hb;cases hb;obtain ⟨x,hxl,hfit,hj⟩:=kG 0 (by omega);have h4:=hj 0 hpos;simp only [Nat.zero_mul,Nat.add_zero] at h4;cases hks:ks with
   | nil=>subst hks; have:=hfit.len; simp at this; simp [this] at hxl; omega
   | cons k ks' =>
    subst hks;cases hex:enc' x with
    | nil=>rw [hex] at hxl; simp at hxl; omega
    | cons y ys =>
     rw [hex] at hfit h4;simp only [List.getElem?_cons_zero] at h4;have h5:y = X:=by
      cases off with
      | zero=>simpa using h4.symm
      | succ o=>simp at h4
     exact hX k (h5 ▸ hfit.1)
  ·rw [hb]
   congr 2
   apply Array.ext';show c.toList = c.toList.take off++(xs.flatMap enc'++c.toList.drop (off + len0 * m))
   rw [← hx2,← drop_drop,take_append_drop,take_append_drop]
theorem open_struct {b0:Nat} {t:TypeId} {fs:Array Field} {ks:List FK} {v:Value} {d:DataW H} {ps:List MemPlace} (ht:P.underlying t = some (.struct fs)) (hk:flatK P 9 t = some ks) (hval:Value.okWide P W .any b0 t v) (hd:DataW.Trod enc P W 0 (fun _=>true) true t v d ps):∃ cs:List Value,v = .agg cs.toArray/\rx ks cs:=by
 obtain ⟨cs,rfl,_⟩:=okWide_struct ht hval;obtain ⟨fuel,hf⟩:=hd;exact ⟨cs.toList,by simp,(trod_flat 9 t ks hk _ _ _ hf).1⟩
theorem trodAll_stays (hl:laidOutB P = true) {W':World} {sp':Nat->Bool}:∀ {ts:List TypeId} {vs:List Value} {ds:List (DataW H)} {ps:List MemPlace},(∀ t ∈ ts,P.readableRec t = true/\t < P.types.size) ->
  DataW.TrodAll enc P W 0 (fun _=>true) true ts vs ds ps->(∀ p ∈ ps,W.sameAt W' p)->(∀ p ∈ ps,sp' p.block = true)->DataW.TrodAll enc P W' 0 sp' true ts vs ds ps
 | [],_,_,_,_,h,_,_=>by
  obtain ⟨rfl,rfl,rfl⟩:=trodAll_nil h
  rfl
 | t::ts,_,_,_,hr,h,hs,hp=>by
  obtain ⟨v,vs,d,ds,a,b,rfl,rfl,rfl,h1,h2⟩:=trodAll_cons h;exact ⟨a,b,Go.WideElems.Trod_stays hl (hr t (by simp)).1 (hr t (by simp)).2 h1 (fun p q=>hs p (by simp [q])) (fun p q=>hp p (by simp [q])),trodAll_stays hl (fun t q=>hr t (by simp [q])) h2 (fun p q=>hs p (by simp [q])) (fun p q=>hp p (by simp [q])),rfl⟩
end
end
section
open Go Mb Go.ChangeShapes Go.WideShapes Go.RowKit
theorem no_iface (k:FK):¬ FK.ok k (rtV fy):=by
 cases k with
 | i k=>rintro ⟨n,h,_⟩; cases h
 | b=>rintro ⟨x,h⟩; cases h
theorem fit_cons {k:FK} {ks:List FK} {cs:List Value} (h:rx (k::ks) cs):∃ v vs,cs = v::vs/\k.ok v/\rx ks vs:=by
 cases cs with
 | nil=>exact h.elim
 | cons v vs=>exact ⟨v,vs,rfl,h.1,h.2⟩
theorem wP {k:IntKind} {ks:List FK} {cs:List Value} (h:rx (.i k::ks) cs):∃ (n:Int) (vs:List Value),cs = .int k n::vs/\(Lit.int k n).wf = true/\rx ks vs:=by
 obtain ⟨v,vs,rfl,⟨n,rfl,hw⟩,hf⟩:=fit_cons h;exact ⟨n,vs,rfl,hw,hf⟩
theorem fit_nil {cs:List Value} (h:rx [] cs):cs = []:=by
 cases cs with
 | nil=>rfl
 | cons v vs=>exact h.elim
theorem wf_u {n:Int} (h:(Lit.int .u64 n).wf = true):0 <= n/\n < 2 ^ 64:=by
 have:=(Lit.wf_int_iff .u64 n).1 h;simp [IntKind.has,IntKind.min,IntKind.max,IntKind.signed,IntKind.bits] at this;omega
theorem Arg.sub {τ:Type} {P:τ->Prop} {W:World} {m:Nat} {C:τ->List Value} {s:Sl} {xs:List {x:τ // P x}} (A:Arg W m (fun x=>C x.1) s xs):Arg W m C s (xs.map (·.1))/\∀ x ∈ xs.map (·.1),P x:=by
 refine ⟨⟨by simpa using A.len,A.cap,?_⟩,fun x hx=>?_⟩
 ·have e:(xs.map (·.1)).flatMap C = xs.flatMap (fun x=>C x.1):=by rw [List.flatMap_map]
  rw [e]; exact A.row
 ·obtain ⟨y,_,rfl⟩:=List.mem_map.1 hx;exact y.2
structure Same (W W':World):Prop where
 os:W'.os = W.os
 out:W'.output = W.output
 heap:∀ i,i < W.heap.size->W'.heap[i]? = W.heap[i]?
theorem Same.cell {W W':World} (s:Same W W') {p:MemPlace} (h:p.block < W.heap.size):W.sameAt W' p:=by
 cases p with
 | cell b off =>
  show W'.cell? _ = W.cell? _;unfold World.cell?;rw [s.heap b h]
 | map b=>exact s.heap b h
theorem run_spV {τ:Type} {T m:Nat} {enc:τ->List Value} {s:Sl} {xs:List τ} {f:FuncId} {vs:List Value} {ET:Nat} {EF:Nat × Nat} {W:World} (A:Arg W m enc s xs)
  (c:Sp prog f vs ai [etB ET EF,vec T m enc s xs] (fun r=>pa_ (r = true) [etB ET EF,vec T m enc s xs])) (hw:W.heap[0]? = some (.cells #[rtV fy] ET EF)) :
  Calls prog f vs.toArray W fun e W'=>e = .returned (.bool true)/\Same W W':=by
 have key:∀ (g:Hp),g 0 = none->(∀ b o,g b = some o->W.heap[b]? = some o)->vec T m enc s xs g->(∀ g',vec T m enc s xs g'->∀ b o,g b = some o->g' b = some o) ->
   Calls prog f vs.toArray W fun e W'=>e = .returned (.bool true)/\Same W W':=by
  intro g g0 gW gv gk;have hs:Sub (un (dh emp 0 (.cells #[rtV fy] ET EF)) g) W:=by
   intro b o ho;by_cases hb:b = 0
   ·subst hb; rw [un_left (iR _ _ _)] at ho; rw [hw]; exact ho
   ·rw [un_right (qk _ _ _ hb)] at ho; exact gW b o ho
  have hd:Dj (dh emp 0 (.cells #[rtV fy] ET EF)) g:=fun b=>by
   by_cases hb:b = 0
   ·subst hb; exact .inr g0
   ·exact .inl (qk _ _ _ hb)
  have hst:ah [etB ET EF,vec T m enc s xs] (un (dh emp 0 (.cells #[rtV fy] ET EF)) g):=⟨_,_,hd,rfl,iR _ _ _,xg gv⟩
  refine (c _ hst W hs).mono ?_;rintro e W' ⟨v,h',rfl,⟨r,rfl,q⟩,s',fr⟩;obtain ⟨rfl,q⟩:=q;obtain ⟨g1,a1,sub1⟩:=cL (i:=0) (A:=etB ET EF) rfl q;obtain ⟨g2,a2,sub2⟩:=cL (i:=1) (A:=vec T m enc s xs) rfl q;refine ⟨rfl,fr.os,fr.out,fun i hi=>?_⟩;rcases Nat.eq_zero_or_pos i with rfl | hp
  ·rw [s' _ _ (sub1 _ _ a1),hw]
  ·cases hg:g i with
   | none=>exact fr.same i hi (uf.2 ⟨qk _ _ _ (by omega),hg⟩)
   | some o=>rw [s' _ _ (sub2 _ _ (gk g2 a2 i o hg)),gW i o hg]
 rcases A.row with h0 | ⟨b,pre,rest,U,fr,h1,h2,h3,h4,h5,h6⟩
 ·exact key emp rfl (fun b o h=>by cases h) ⟨A.len,A.cap,.inl h0⟩ (fun _ _ b o h=>by cases h)
 ·by_cases h0:s.cap = 0
  ·exact key emp rfl (fun b o h=>by cases h) ⟨A.len,A.cap,.inl h0⟩ (fun _ _ b o h=>by cases h)
  ·refine key (dh emp b (.cells (pre++(xs.flatMap enc++rest)).toArray U fr)) (qk _ _ _ (Ne.symm h5)) ?_ ⟨A.len,A.cap,.inr ⟨b,pre,rest,U,fr,h1,h2,?_,iR _ _ _⟩⟩ ?_
   ·intro b' o ho;unfold dh at ho;split at ho
    ·rename_i hb; subst hb; rw [h6]; exact ho
    ·cases ho
   ·unfold gh; rw [h3]; exact ⟨rfl,h4⟩
   ·rintro g' ⟨_,_,r⟩ b' o ho;rcases r with r | ⟨c',pre',rest',U',fr',r1,_,r3,r4⟩
    ·exact absurd r h0
    ·rw [h1] at r1;unfold gh at r3;rw [h3] at r3;obtain ⟨r5,_⟩:=r3;simp only [Prod.mk.injEq] at r5;obtain ⟨rfl,rfl,rfl,rfl⟩:=r5;simp only [Option.some.injEq,Prod.mk.injEq] at r1;obtain ⟨rfl,_⟩:=r1;unfold dh at ho;split at ho
     ·rename_i hb; subst hb; cases ho; exact r4
     ·cases ho
theorem same_post {H:Type} {enc:TypeId × Value->H} {W W':World} {ts:List TypeId} {vs:List Value} {ds:List (DataW H)} {ps:List MemPlace} {sp:Nat->Bool} (hl:laidOutB prog = true) (hr:(ts.all fun t=>prog.readableRec t && decide (t < prog.types.size)) = true)
  (h:DataW.TrodAll enc prog W 0 (fun _=>true) true ts vs ds ps) (hlt:∀ p ∈ ps,p.block < W.heap.size) (s:Same W W') (hs:∀ p ∈ ps,sp p.block = true):DataW.TrodAll enc prog W' 0 sp true ts vs ds ps :=
 trodAll_stays hl (fun t ht=>by
  have:=all_eq_true.1 hr t ht;simp only [and_eq_true,decide_eq_true_eq] at this;exact this) h (fun p hp=>s.cell (hlt p hp)) hs
theorem want_all {ts:List TypeId} (h:(ts.all fun t=>!(prog.wantsStandIn t)) = true) {j:Nat} {t:TypeId} (ht:ts.toArray[j]? = some t):prog.wantsStandIn t = false:=by
 have:=all_eq_true.1 h t (List.mem_of_getElem? (by simpa using ht));simpa using this
end
section
open Go Mb
theorem mod_in (x:Int) {n:Int} (h:1 <= n/\n <= 100):0 <= (i64.wrap (x.tmod n + n)).tmod n/\(i64.wrap (x.tmod n + n)).tmod n < n:=by
 have h1:=Int.tmod_lt_of_pos x (show (0:Int) < n by omega);have h2:-n < x.tmod n:=by
  have:=Int.tmod_lt_of_pos (-x) (show (0:Int) < n by omega);rw [Int.neg_tmod] at this;omega
 rw [aE (by omega) (by omega)];exact ⟨Int.tmod_nonneg _ (by omega),Int.tmod_lt_of_pos _ (by omega)⟩
end
section
open Go Mb
def KK.pick (k:KK) (p:oX):Bool × KK:=if p.fFb = 1 then KK.begin_ k p.fOa p.fBa p.fJa else if p.fFb = 2 then KK.step k p.fOa else if p.fFb = 3 then KK.post k p.fOa else if p.fFb = 4 then KK.evict k p.fOa p.fSet p.fWay else (false,k)
theorem sp_Do (x:Ptr) (k:KK) (p:oX) (hn:k.now < 2 ^ 36):Sp prog ni [pv x,.agg p.C.toArray] ai [bu x k] (fun r=>pa_ (r = (KK.pick k p).1) [bu x (KK.pick k p).2]):=by
 intro h st;refine sim_messuagelaw16_Do _ _ ?_;unfold rW;refine ar (fun c=>?_) (fun c=>?_)
 ·have c':p.fFb = 1:=by simpa using c
  have e:KK.pick k p = KK.begin_ k p.fOa p.fBa p.fJa:=by unfold KK.pick; rw [if_pos c']
  rw [e];exact aW (i:=0) (sp_kern_Begin x k p.fOa p.fBa p.fJa (by omega)) rfl st fun r h1 hr s1=>aw hr s1
 ·have c1:p.fFb ≠ 1:=by simpa using c
  refine ar (fun c=>?_) (fun c=>?_)
  ·have c':p.fFb = 2:=by simpa using c
   have e:KK.pick k p = KK.step k p.fOa:=by unfold KK.pick; rw [if_neg c1,if_pos c']
   rw [e];exact aW (i:=0) (sp_kern_Step x k p.fOa (by omega)) rfl st fun r h1 hr s1=>aw hr s1
  ·have c2:p.fFb ≠ 2:=by simpa using c
   refine ar (fun c=>?_) (fun c=>?_)
   ·have c':p.fFb = 3:=by simpa using c
    have e:KK.pick k p = KK.post k p.fOa:=by unfold KK.pick; rw [if_neg c1,if_neg c2,if_pos c']
    rw [e];exact aW (i:=0) (sp_kern_Post x k p.fOa (by omega)) rfl st fun r h1 hr s1=>aw hr s1
   ·have c3:p.fFb ≠ 3:=by simpa using c
    refine ar (fun c=>?_) (fun c=>?_)
    ·have c':p.fFb = 4:=by simpa using c
     have e:KK.pick k p = KK.evict k p.fOa p.fSet p.fWay:=by unfold KK.pick; rw [if_neg c1,if_neg c2,if_neg c3,if_pos c']
     rw [e];exact aW (i:=0) (sp_kern_Evict x k p.fOa p.fSet p.fWay (by omega)) rfl st fun r h1 hr s1=>aw hr s1
    ·have c4:p.fFb ≠ 4:=by simpa using c
     have e:KK.pick k p = (false,k):=by unfold KK.pick; rw [if_neg c1,if_neg c2,if_neg c3,if_neg c4]
     rw [e];exact aw rfl st
theorem IE.pick {k:KK} (A:IE k) (hn:k.now < 2 ^ 40) {p:oX} (cw:Cw p.fJa):IE (KK.pick k p).2:=by
 unfold KK.pick;split
 ·exact A.begin hn _ _ cw
 ·split
  ·exact A.step hn _
  ·split
   ·exact A.post hn _
   ·split
    ·exact A.evict hn _ _ _
    ·exact A
structure Picked (p:oX) (k k':KK):Prop where
 len:k'.calls.length = k.calls.length
 s:k'.p.s = k.p.s
 lo:k.now <= k'.now
 now:k'.now <= k.now + 1
 calls:∀ (d:Nat) y,k'.calls[d]? = some (some y)->(∃ x,k.calls[d]? = some (some x)/\(x.fc.e0 ≠ 9->y.fc = x.fc))\/(y.fc = p.fJa/\p.fFb = 1)
theorem step_s {k:KK} (c:Int):(KK.step k c).2.p.s = k.p.s:=by
 unfold KK.step;split
 ·rfl
 ·split
  ·rfl
  ·rename_i x _;unfold KK.work;split
   ·exact (uX (KK.tick k) c x).2.2.1
   ·split
    ·rfl
    ·split
     ·rfl
     ·split
      ·exact do_s _ _ _
      ·exact do_s _ _ _
theorem pick_picked {k:KK} (A:IE k) (hn:k.now < 2 ^ 38) (p:oX):Picked p k (KK.pick k p).2:=by
 have ht:(KK.tick k).now = k.now + 1:=tick_now A.inv.ok (by omega);have hw:i64.wrap (k.now + 1) = k.now + 1:=ht;have same:∀ (d:Nat) y,k.calls[d]? = some (some y)->(∃ x,k.calls[d]? = some (some x)/\(x.fc.e0 ≠ 9->y.fc = x.fc))\/(y.fc = p.fJa/\p.fFb = 1):=fun d y h=>.inl ⟨y,h,fun _=>rfl⟩;unfold KK.pick;split
 ·rename_i hk;unfold KK.begin_;split
  ·exact ⟨rfl,rfl,le_refl _,by show k.now <= k.now + 1; omega,same⟩
  ·refine ⟨by simp,rfl,by show k.now <= i64.wrap (k.now + 1); omega,by show i64.wrap (k.now + 1) <= _; omega,fun d y h=>?_⟩;have h':(k.calls.set p.fOa.toNat (some ⟨k.events.length,p.fBa,p.fJa,false,0⟩))[d]? = some (some y):=h;rw [List.getElem?_set] at h';split at h'
   ·split at h'
    ·simp only [Option.some.injEq] at h';rw [← h']; exact .inr ⟨rfl,hk⟩
    ·cases h'
   ·exact same d y h'
 ·split
  ·by_cases hb:KK.busy k p.fOa = true
   ·obtain ⟨hi,x,hx⟩:=busy_is hb;obtain ⟨n,e,hlt⟩:=jD hi;rw [e] at hx ⊢;have hcx:=qi hx;obtain ⟨S,s1,_⟩:=step_stepped A.inv hlt hcx;have hnn:=KK.step_now A.inv.ok.n0 hn (n:Int);refine ⟨S.len,step_s _,hnn.1,hnn.2,fun d y h=>?_⟩;by_cases ed:d = n
    ·subst ed;refine .inl ⟨x,hcx,fun h9=>?_⟩;rcases s1 h9 with g | ⟨z,g1,_,g3⟩
     ·rw [g] at h; cases h
     ·rw [g1] at h; cases h; exact g3
    ·rw [S.other d ed] at h; exact same d y h
   ·have e:KK.step k p.fOa = (false,k):=by unfold KK.step; rw [if_pos (by simpa using hb)]
    rw [e];exact ⟨rfl,rfl,le_refl _,by show k.now <= k.now + 1; omega,same⟩
  ·split
   ·have hnn:=KK.post_now A.inv.ok.n0 hn p.fOa;have e:(KK.post k p.fOa).2.calls = k.calls/\(KK.post k p.fOa).2.p.s = k.p.s:=by
     unfold KK.post;split
     ·exact ⟨rfl,rfl⟩
     ·split <;> exact ⟨rfl,rfl⟩
    exact ⟨by rw [e.1],e.2,hnn.1,hnn.2,by rw [e.1]; exact same⟩
   ·split
    ·unfold KK.evict;split
     ·exact ⟨rfl,rfl,le_refl _,by show k.now <= k.now + 1; omega,same⟩
     ·split
      ·exact ⟨rfl,rfl,le_refl _,by show k.now <= k.now + 1; omega,same⟩
      ·exact ⟨rfl,rfl,by show k.now <= i64.wrap (k.now + 1); omega,by show i64.wrap (k.now + 1) <= _; omega,same⟩
    ·exact ⟨rfl,rfl,le_refl _,by show k.now <= k.now + 1; omega,same⟩
theorem size_in (z:dc):PK.sized (bb z) = true/\1 <= (bb z).fRa/\(bb z).fRa <= 4/\1 <= (bb z).fHa/\(bb z).fHa <= 3:=by
 have h1:=mod_in z.fRa (n:=4) (by decide);have h2:=mod_in z.fHa (n:=3) (by decide);have h3:=mod_in z.fUa (n:=6) (by decide);rw [cQ];unfold bb
 dsimp only
 generalize (i64.wrap (z.fRa.tmod 4 + 4)).tmod 4 = a at *
 generalize (i64.wrap (z.fHa.tmod 3 + 3)).tmod 3 = b at *
 generalize (i64.wrap (z.fUa.tmod 6 + 6)).tmod 6 = c at *
 rw [aE (n:=1 + a) (by omega) (by omega),aE (n:=1 + b) (by omega) (by omega),aE (n:=1 + c) (by omega) (by omega)];omega
theorem cw_of {p:oX} (h:rx [.i .i64,.i .i64,.i .i64,.i .u64,.i .u64,.i .u64,.i .u64,.i .u64,.i .i64,.i .i64] (bJ.C p)):Cw p.fJa:=by
 obtain ⟨_,_,_,⟨n0,e0,w0⟩,⟨n1,e1,w1⟩,⟨n2,e2,w2⟩,⟨n3,e3,w3⟩,⟨n4,e4,w4⟩,_⟩:=h
 injection e0 with _ e0
 injection e1 with _ e1
 injection e2 with _ e2
 injection e3 with _ e3
 injection e4 with _ e4
 exact ⟨by rw [e0]; exact (wf_u w0).1,by rw [e1]; exact (wf_u w1).1,by rw [e2]; exact (wf_u w2).1,by rw [e3]; exact (wf_u w3).1,by rw [e4]; exact (wf_u w4).1⟩
end
section
open Go Mb
def EC (k:KK):Prop:=∀ (i:Nat) e,k.events[i]? = some e->Cw e.fJa
theorem EC.app {k q:KK} {e:aL} (H:EC k) (he:q.events = k.events++[e]) (hc:Cw e.fJa):EC q:=by
 intro i d hi;rw [he] at hi;rcases Nat.lt_or_ge i k.events.length with h | h
 ·rw [List.getElem?_append_left h] at hi; exact H i d hi
 ·rw [List.getElem?_append_right h] at hi;by_cases h0:i - k.events.length = 0
  ·rw [h0] at hi; simp at hi; rw [← hi]; exact hc
  ·rw [List.getElem?_eq_none (by simp; omega)] at hi; cases hi
theorem EC.set {k q:KK} {m:Nat} {e:aL} (H:EC k) (he:q.events = k.events.set m e) (hc:Cw e.fJa):EC q:=by
 intro i d hi;rw [he,List.getElem?_set] at hi;split at hi
 ·split at hi
  ·cases hi; exact hc
  ·cases hi
 ·exact H i d hi
theorem EC.same {k q:KK} (H:EC k) (he:q.events = k.events):EC q:=by intro i d hi; rw [he] at hi; exact H i d hi
structure AE (k:KK):Prop extends All k where
 ec:EC k
theorem AE.begin {k:KK} (A:AE k) (hn:k.now < 2 ^ 40) (core env:Int) {c:bv} (cw:Cw c):AE (KK.begin_ k core env c).2:=by
 refine ⟨A.toAll.begin hn core env cw,?_⟩;rcases begin_or A.toIE hn core env c with ⟨_,h⟩ | ⟨_,d,_,_,_,_,_,he,_⟩
 ·rw [h]; exact A.ec
 ·exact A.ec.app he cw
theorem AE.step {k:KK} (A:AE k) (hn:k.now < 2 ^ 40) (c:Int):AE (KK.step k c).2:=by
 refine ⟨A.toAll.step hn c,?_⟩;rcases step_or A.toIE hn c with h | ⟨d,x,_,_,st⟩
 ·rw [h]; exact A.ec
 ·cases st with
  | wait y he hp hc h1 h2 h3=>exact A.ec.same he
  | user m e0 h0 hm hz hcl hen hco hu he hp hc=>exact A.ec.set he (A.ec m e0 h0)
  | does m e0 h0 hm hz hcl hen hco hu he hp hc=>exact A.ec.set he (A.ec m e0 h0)
theorem AE.post {k:KK} (A:AE k) (hn:k.now < 2 ^ 40) (c:Int):AE (KK.post k c).2:=⟨A.toAll.post hn c,A.ec.same (post_same k c).1⟩
theorem AE.evict {k:KK} (A:AE k) (hn:k.now < 2 ^ 40) (c s w:Int):AE (KK.evict k c s w).2:=by
 refine ⟨A.toAll.evict hn c s w,A.ec.same ?_⟩;unfold KK.evict;split
 ·rfl
 ·split <;> rfl
theorem AE.pick {k:KK} (A:AE k) (hn:k.now < 2 ^ 40) {p:oX} (cw:Cw p.fJa):AE (KK.pick k p).2:=by
 unfold KK.pick;split
 ·exact A.begin hn _ _ cw
 ·split
  ·exact A.step hn _
  ·split
   ·exact A.post hn _
   ·split
    ·exact A.evict hn _ _ _
    ·exact A
theorem ae_new {z:dc} (h:PK.sized z = true):AE (KK.new z):=⟨all_new h,fun i e hi=>by simp [KK.new] at hi⟩
structure BehE (z:dc) (n:Nat) (k:KK):Prop extends AE k where
 s:k.p.s = z
 now:k.now <= n
theorem BehE.pick {z:dc} {n:Nat} {k:KK} (B:BehE z n k) (hn:n < 1000) {p:oX} (cw:Cw p.fJa):BehE z (n + 1) (KK.pick k p).2:=by
 have hk:k.now < 2 ^ 38:=by have:=B.now; omega
 have P:=pick_picked B.toIE hk p;exact ⟨B.toAE.pick (by omega) cw,P.s.trans B.s,by have:=P.now; have:=B.now; omega⟩
theorem behe_new {z:dc} (h:PK.sized z = true):BehE z 0 (KK.new z):=⟨ae_new h,rfl,le_refl _⟩
end
end Go.Proofs.YtjcamacgclipiaaGreatDoor
