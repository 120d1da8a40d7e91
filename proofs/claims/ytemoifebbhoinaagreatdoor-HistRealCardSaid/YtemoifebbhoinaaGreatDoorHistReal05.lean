/- Part of the proof of: The law HistReal returns true for every input, and leaves its arguments as they were. -/
import Derived.Test.YtemoifebbhoinaaGreatDoorHistReal04
set_option linter.all false
set_option maxRecDepth 20000
namespace Go.Proofs.YtemoifebbhoinaaGreatDoor
open Go.Proofs.Tryz
open Go.IntKind (i64 u64)
open _root_.List (append_nil countP_cons getD_eq_getElem?_getD getElem?_cons_succ getElem_mem mem_or_eq_of_mem_set mem_replicate replicate set_cons_succ)
open _root_.Nat (add_comm)
section
open Go Mb
def uW (a0:Ptr) (K:Int->Hp->Prop):Hp->Prop:=br a0.isNone ( K 0) ( nn a0 fun q6=>ld (q6.1,q6.2 + 0) cS fun x8=>K (x8.len:Int))
theorem sim_mem_Mem_Frames (a0:Ptr) {K:Int->Hp->Prop} {h:Hp} (H:uW a0 K h):cl prog xc [(pv a0)] eF K h:=z_i func204 p p fun _=>O<|U p<|am<|O<|M p<|J (cA underlying152 p)<|ae<|ax p H (fun k1 H2=>O<|U p<|aj<|Z ⟨0,p,H2⟩) fun k1 H2=>ap<|O<|M p<|bK H2 fun q6 e3 H4=>J (aK<|aJ p<|ar e3)<|J (ah tw p)<|aa<|aW H4 lR p (fun _=>p) p fun x8 H5=>J (dA p underlying163 p)<|U p<|aj<|Z ⟨(x8.len:Int),p,H5⟩
def sh_mem_Mem_at (a0:Ptr) (a1:Int) (a2:Int) (K:Ptr->Hp->Prop):Hp->Prop:=br (!(decide (a1 < 0))) ( cl prog xc [(pv a0)] eF fun r12=>br (((decide (a1 >= r12)) || (decide (a2 < 0))) || (decide (a2 >= 16))) ( K none) ( nn a0 fun q24=>ld (q24.1,q24.2 + 0) cS fun x26=>ix x26 a1 fun q28=>ld (q28.1,q28.2 + Int.toNat a1 * 1) cS fun x29=>ix x29 a2 fun q31=>K (some (q31.1,q31.2 + Int.toNat a2 * 1)))) ( K none)
theorem sim_mem_Mem_at (a0:Ptr) (a1:Int) (a2:Int) {K:Ptr->Hp->Prop} {h:Hp} (H:sh_mem_Mem_at a0 a1 a2 K h):cl prog mK [(pv a0),(.int .i64 a1),(.int .i64 a2)] tB K h:=z_i func179 p p fun _=>O<|U p<|am<|O<|M p<|J (cj p p)<|M p<|W p p (aL _) (fun g1=>wv<|ai p)<|W p p (aL _) (fun g2=>wv<|ai p)<|bU H (fun k4 H5=>G (F<|bO k4)<|gw H5 en_204 (aU (aG p k4) bX) p fun r12 _ H6=>G (F<|bO k4)<|z_p (jF (aG p k4) p)<|J (au p (bO k4) p)<|M p<|W p p (aL _) (fun g7=>wv<|ai p)<|W p p (aL _) (fun g8=>wv<|cj (aG p g8) p)<|J (dy p p)<|M p<|W p p (aL _) (fun g9=>wv<|ai p)<|W p p (aL _) (fun g10=>wv<|jF (aG p g10) p)<|J (dy p p)<|ae<|ax p H6 (fun k11 H12=>O<|U p<|aj<|Z ⟨none,p,H12⟩) fun k11 H12=>ap<|O<|M p<|bK H12 fun q24 e13 H14=>J (aK<|aJ p<|ar e13)<|J (ah tw p)<|aa<|aW H14 lR p (fun _=>p) p fun x26 H15=>M p<|cq H15 fun q28 e16 h17 H18=>J (be mD (aJ p<|aX e16) p h17)<|aa<|aW H18 sc_93 p (fun _=>p) p fun x29 H19=>M p<|cq H19 fun q31 e20 h21 H22=>J (be xI (aJ p<|aX e20) p h21)<|U p<|aj<|Z ⟨some (q31.1,q31.2 + Int.toNat a2 * 1),p,H22⟩) fun k4 H5=>Y (bL<|bq k4)<|Y (bL<|bq k4)<|J (aS p (bq k4) p)<|M p<|Y p<|Y p<|J (aS p p p)<|M p<|Y p<|Y p<|J (aS p p p)<|ae<|kL p p<|O<|U p<|aj<|Z ⟨none,p,H5⟩
def sh_mem_Mem_Load (a0:Ptr) (a1:Int) (a2:Int) (K:(Int × Bool)->Hp->Prop):Hp->Prop:=cl prog mK [(pv a0),(.int .i64 a1),(.int .i64 a2)] tB fun r12=>br r12.isNone ( K (0,false)) ( nn r12 fun q16=>ld (q16.1,q16.2) (cI .u64) fun x17=>K (x17,true))
theorem sim_mem_Mem_Load (a0:Ptr) (a1:Int) (a2:Int) {K:(Int × Bool)->Hp->Prop} {h:Hp} (H:sh_mem_Mem_Load a0 a1 a2 K h):cl prog iF [(pv a0),(.int .i64 a1),(.int .i64 a2)] bN K h:=z_i func161 p p fun _=>O<|J (av p)<|U p<|O<|M p<|M p<|M p<|aa<|D H en_179 fun r12 _ H1=>U p<|am<|O<|M p<|J (cA underlying191 p)<|ae<|ax p H1 (fun k2 H3=>O<|J (av p)<|U p<|aj<|bD (bW p (cg p)<|cg p) ⟨(0,false),p,H3⟩) fun k2 H3=>ap<|O<|M p<|bK H3 fun q16 e4 H5=>J (aK<|aJ p<|ar e4)<|aa<|aW H5 cG p (fun _=>p) p fun x17 H6=>J (av p)<|U p<|aj<|bD (bW p (cg p)<|cg p) ⟨(x17,true),p,H6⟩
def wO (a0:Ptr) (a1:Int) (a2:Int) (a3:Int) (K:Bool->Hp->Prop):Hp->Prop:=cl prog mK [(pv a0),(.int .i64 a1),(.int .i64 a2)] tB fun r13=>br r13.isNone ( K false) ( nn r13 fun q18=>st (q18.1,q18.2) [.int .u64 a3]<|K true)
theorem sim_mem_Mem_Store (a0:Ptr) (a1:Int) (a2:Int) (a3:Int) {K:Bool->Hp->Prop} {h:Hp} (H:wO a0 a1 a2 a3 K h):cl prog fT [(pv a0),(.int .i64 a1),(.int .i64 a2),(.int .u64 a3)] aC K h:=z_i func162 p p fun _=>O<|U p<|O<|M p<|M p<|M p<|aa<|D H en_179 fun r13 _ H1=>U p<|am<|O<|M p<|J (cA underlying191 p)<|ae<|ax p H1 (fun k2 H3=>O<|U p<|aj<|Z ⟨false,p,H3⟩) fun k2 H3=>ap<|O<|M p<|M p<|bK H3 fun q18 e4 H5=>J (aK<|aJ p<|ar e4)<|aa<|di inf_22 p p p p p H5 fun _ H6=>ae<|O<|U p<|aj<|Z ⟨true,p,H6⟩
def sh_mem_Mem_Cas (a0:Ptr) (a1:Int) (a2:Int) (a3:Int) (a4:Int) (K:(Int × Bool)->Hp->Prop):Hp->Prop:=cl prog iF [(pv a0),(.int .i64 a1),(.int .i64 a2)] bN fun r18=>br (r18.2 && (r18.1 == a3)) ( cl prog fT [(pv a0),(.int .i64 a1),(.int .i64 a2),(.int .u64 a4)] aC fun r31=>K (r18.1,r18.2)) ( K (r18.1,r18.2))
theorem sim_mem_Mem_Cas (a0:Ptr) (a1:Int) (a2:Int) (a3:Int) (a4:Int) {K:(Int × Bool)->Hp->Prop} {h:Hp} (H:sh_mem_Mem_Cas a0 a1 a2 a3 a4 K h):cl prog re [(pv a0),(.int .i64 a1),(.int .i64 a2),(.int .u64 a3),(.int .u64 a4)] bN K h:=z_i func163 p p fun _=>O<|J (av p)<|U p<|O<|M p<|M p<|M p<|aa<|D H en_161 fun r18 _ H1=>M p<|J (al p p)<|J (al p p)<|J (av p)<|U p<|am<|O<|M p<|M p<|W p p (ay _) (fun g2=>wv<|ai p)<|W p p (ay _) (fun g3=>wv<|ai p)<|W p p (ay _) (fun g4=>wv<|bP (aG p g4)<|aG p g4)<|J (bQ p p)<|ae<|ax p H1 (fun k5 H6=>aq<|M p<|M p<|M p<|M p<|aa<|D H6 en_162 fun r31 _ H7=>ae<|O<|M p<|M p<|J (av p)<|U p<|aj<|bD (bW p (cg p)<|cg p) ⟨(r18.1,r18.2),p,H7⟩) fun k5 H6=>ap<|O<|M p<|M p<|J (av p)<|U p<|aj<|bD (bW p (cg p)<|cg p) ⟨(r18.1,r18.2),p,H6⟩
def sh_mem_Mem_Add (a0:Ptr) (a1:Int) (a2:Int) (a3:Int) (K:(Int × Bool)->Hp->Prop):Hp->Prop:=cl prog iF [(pv a0),(.int .i64 a1),(.int .i64 a2)] bN fun r16=>cl prog fT [(pv a0),(.int .i64 a1),(.int .i64 a2),(.int .u64 (u64.wrap (r16.1 + a3)))] aC fun r25=>K (r16.1,r16.2)
theorem sim_mem_Mem_Add (a0:Ptr) (a1:Int) (a2:Int) (a3:Int) {K:(Int × Bool)->Hp->Prop} {h:Hp} (H:sh_mem_Mem_Add a0 a1 a2 a3 K h):cl prog rf [(pv a0),(.int .i64 a1),(.int .i64 a2),(.int .u64 a3)] bN K h:=z_i func164 p p fun _=>O<|J (av p)<|U p<|O<|M p<|M p<|M p<|aa<|D H en_161 fun r16 _ H1=>M p<|J (al p p)<|J (al p p)<|J (av p)<|U p<|O<|M p<|M p<|M p<|M p<|M p<|J (bk p p)<|aa<|D H1 en_162 fun r25 _ H2=>ae<|O<|M p<|M p<|J (av p)<|U p<|aj<|bD (bW p (cg p)<|cg p) ⟨(r16.1,r16.2),p,H2⟩
def sh_mem_Mem_Zero (a0:Ptr) (a1:Int) (K:Bool->Hp->Prop):Hp->Prop:=cl prog mK [(pv a0),(.int .i64 a1),(.int .i64 0)] tB fun r7=>br r7.isNone ( K false) ( nn a0 fun q10=>ld (q10.1,q10.2 + 0) cS fun x12=>ix x12 a1 fun q14=>ld (q14.1,q14.2 + Int.toNat a1 * 1) cS fun x15=>hpv prog (Builtin.clear_ #[bf] t_none #[(sv x15)]) R_ fun (_:Unit)=>K true)
theorem sim_mem_Mem_Zero (a0:Ptr) (a1:Int) {K:Bool->Hp->Prop} {h:Hp} (H:sh_mem_Mem_Zero a0 a1 K h):cl prog ud [(pv a0),(.int .i64 a1)] aC K h:=z_i func172 p p fun _=>O<|U p<|am<|O<|M p<|M p<|aa<|D H en_179 fun r7 _ H1=>J (cA underlying191 p)<|ae<|ax p H1 (fun k2 H3=>O<|U p<|aj<|Z ⟨false,p,H3⟩) fun k2 H3=>ap<|O<|M p<|bK H3 fun q10 e4 H5=>J (aK<|aJ p<|ar e4)<|J (ah tw p)<|aa<|aW H5 lR p (fun _=>p) p fun x12 H6=>M p<|cq H6 fun q14 e7 h8 H9=>J (be mD (aJ p<|aX e7) p h8)<|aa<|aW H9 sc_93 p (fun _=>p) p fun x15 H10=>aa<|to_hpv0 H10 (x_clear p) fun _ _ H11=>ae<|O<|U p<|aj<|Z ⟨true,p,H11⟩
def mem_New_l1 (a0:Int) (K:Ptr->Hp->Prop) (b11:Nat) (Rec7:Int->Hp->Prop) (s6:Int):Hp->Prop:=br (decide (s6 < a0)) ( ld (b11,0) cS fun x19=>hpv prog (Instr.makeSlice bf (.int .i64 16) (.int .i64 16)) ch fun (v20:Sl)=>hpv prog (Instr.buildSlice qI 1 #[(0,(sv v20))]) R_SSuint64 fun (v21:Sl)=>hpv prog (Builtin.append_ #[qI,qI] qI #[(sv x19),(sv v21)]) R_SSuint64 fun (v22:Sl)=>st (b11,0) [sv v22]<|Rec7 (i64.wrap (s6 + 1))) ( K (some (b11,0)))
def sh_mem_New (a0:Int) (K:Ptr->Hp->Prop):Hp->Prop:=br ((decide (a0 < 1)) || (decide (a0 > 16))) ( K none) ( nw mA (tA.C (⟨(⟨none,0,0,none⟩:Sl)⟩:tA)) fun b11=>Lp (mem_New_l1 a0 K b11) 0)
theorem sim_mem_New (a0:Int) {K:Ptr->Hp->Prop} {h:Hp} (H:sh_mem_New a0 K h):cl prog xa [(.int .i64 a0)] uE K h:=z_i func104 p p fun _=>O<|U p<|am<|O<|M p<|J (cj p p)<|M p<|W p p (aL _) (fun g1=>wv<|ai p)<|W p p (aL _) (fun g2=>wv<|oZ (aG p g2) p)<|J (dy p p)<|ae<|ax p H (fun k3 H4=>O<|U p<|aj<|Z ⟨none,p,H4⟩) fun k3 H4=>ap<|O<|J (bd (vs:=[]) p build_212)<|aa<|iw p p p H4 fun b11 _ H5=>U p<|am<|O<|M p<|M p<|ae<|aw<|bz (step:=mem_New_l1 a0 K b11) (fun s6=>[(3,(.pointer (some ⟨b11,0,none⟩))),(12,(.int .i64 a0)),(13,(.int .i64 s6))]) (fun s6=>[]) H5 (.cons p<|.cons p<|.cons p<|.nil _) .slnil fun Rec7 s6 _ H8=>O<|J (cj p p)<|ae<|am<|ax p H8 (fun k9 H10=>ap<|am<|aw<|bn (n:=11) [] ck p .slnil<|V 0 p (ai p)<|V 1 p (ai p)<|V 2 p (aK p)<|V 3 p (ah tw p)<|bA (i:=4) (fun _ _ _ _ hh=>hh) H10 p (by kernel_rfl) lR p (fun _=>p) p fun x19 H11=>I 5 p<|aV H11 (kr p p) p fun v20 _ H12=>⟨.slnil,I 6 p<|aV H12 (bE (vs:=[(sv v20)]) p) p fun v21 _ H13=>⟨.slnil,I 7 p<|aV H13 (dT p p) p fun v22 _ H14=>⟨.slnil,V 8 p (aK p)<|V 9 p (ah tw p)<|I 10 p<|di inf_163 p p p p p H14 fun _ H15=>⟨.slnil,aR (by kernel_rfl)<|aq<|J (bk p p)<|M p<|ae<|cF (i64.wrap (s6 + 1)) H15 (.cons p<|.cons p<|.cons p<|.nil _) .slnil⟩⟩⟩⟩) fun k9 H10=>bh<|O<|M p<|U p<|aj<|Z ⟨some (b11,0),p,H10⟩
def wP (a0:Ptr) (a1:Int) (K:Sl->Hp->Prop):Hp->Prop:=cl prog mK [(pv a0),(.int .i64 a1),(.int .i64 0)] tB fun r7=>br r7.isNone ( K (⟨none,0,0,none⟩:Sl)) ( nn a0 fun q10=>ld (q10.1,q10.2 + 0) cS fun x12=>ix x12 a1 fun q14=>ld (q14.1,q14.2 + Int.toNat a1 * 1) cS fun x15=>cl prog gO [(sv x15)] ch fun r16=>K r16)
theorem sim_mem_Mem_Frame (a0:Ptr) (a1:Int) {K:Sl->Hp->Prop} {h:Hp} (H:wP a0 a1 K h):cl prog sd [(pv a0),(.int .i64 a1)] ch K h:=z_i func136 p p fun _=>O<|U p<|am<|O<|M p<|M p<|aa<|D H en_179 fun r7 _ H1=>J (cA underlying191 p)<|ae<|ax p H1 (fun k2 H3=>O<|U p<|aj<|Z ⟨(⟨none,0,0,none⟩:Sl),p,H3⟩) fun k2 H3=>ap<|O<|M p<|bK H3 fun q10 e4 H5=>J (aK<|aJ p<|ar e4)<|J (ah tw p)<|aa<|aW H5 lR p (fun _=>p) p fun x12 H6=>M p<|cq H6 fun q14 e7 h8 H9=>J (be mD (aJ p<|aX e7) p h8)<|aa<|aW H9 sc_93 p (fun _=>p) p fun x15 H10=>aa<|D H10 en_180 fun r16 _ H11=>U p<|aj<|Z ⟨r16,p,H11⟩
end
section
open Go Mb
abbrev vU (s:Sl) (xs:List Int):As:=vec t_uint64 1 (cI .u64) s xs
def rows:List Sl->List (List Int)->List As
 | s::ss,f::fs=>vU s f::rows ss fs
 | _,_=>[]
theorem rows_get:∀ (ss:List Sl) (fs:List (List Int)) (i:Nat) (s:Sl) (f:List Int),ss[i]? = some s->fs[i]? = some f->(rows ss fs)[i]? = some (vU s f)
 | [],_,_,_,_,h,_=>by simp at h
 | _::_,[],_,_,_,_,h=>by simp at h
 | s::ss,f::fs,0,_,_,h1,h2=>by simp at h1 h2; subst h1; subst h2; rfl
 | s::ss,f::fs,i + 1,_,_,h1,h2=>by simpa [rows] using rows_get ss fs i _ _ (by simpa using h1) (by simpa using h2)
theorem rows_set:∀ (ss:List Sl) (fs:List (List Int)) (i:Nat) (s:Sl) (f:List Int),ss[i]? = some s->(rows ss fs).set i (vU s f) = rows ss (fs.set i f)
 | [],_,_,_,_,h=>by simp at h
 | s::ss,[],i,_,_,_=>by simp [rows]
 | s::ss,g::fs,0,_,_,h1=>by simp at h1; subst h1; rfl
 | s::ss,g::fs,i + 1,_,_,h1=>by simp only [rows,set_cons_succ]; rw [rows_set ss fs i _ _ (by simpa using h1)]
theorem rows_app (s:Sl) (f:List Int):∀ (ss:List Sl) (fs:List (List Int)),ss.length = fs.length->rows (ss++[s]) (fs++[f]) = rows ss fs++[vU s f]
 | [],[],_=>rfl
 | [],_::_,h=>by simp at h
 | _::_,[],h=>by simp at h
 | a::ss,b::fs,h=>by simp only [List.cons_append,rows]; rw [rows_app s f ss fs (by simpa using h)]
def yp (b:Nat) (s:Sl) (ss:List Sl) (fs:List (List Int)):List As:=blk b mA [sv s]::vec bf 1 cS s ss::rows ss fs
structure MemOk (ss:List Sl) (fs:List (List Int)):Prop where
 len:ss.length = fs.length
 le:fs.length <= 16
 row:∀ f ∈ fs,f.length = 16
def iK (x:Ptr) (fs:List (List Int)):As:=fun h=>∃ bs:Nat × Sl × List Sl,(x = some (bs.1,0)/\MemOk bs.2.2 fs)/\aB (yp bs.1 bs.2.1 bs.2.2 fs) h
theorem mem_op {x:Ptr} {fs:List (List Int)} {l:List As} {h:Hp} (s0:aB (iK x fs::l) h):∃ b s ss,x = some (b,0)/\MemOk ss fs/\s.len = fs.length/\aB (yp b s ss fs++l) h:=by
 obtain ⟨⟨b,s,ss⟩,⟨hx,hb⟩,st⟩:=op_ s0
 exact ⟨b,s,ss,hx,hb,(cc (j:=1) st rfl).1.trans hb.len,st⟩
theorem mem_cl {b:Nat} {s:Sl} {ss:List Sl} {fs:List (List Int)} {l:List As} {h:Hp} (hb:MemOk ss fs) (st:aB (yp b s ss fs++l) h):aB (iK (some (b,0)) fs::l) h:=cl_ (b,s,ss) ⟨rfl,hb⟩ st
theorem tb {b:Nat} {s:Sl} {ss:List Sl} {fs:List (List Int)} {h:Hp} (hb:MemOk ss fs) (st:aB (yp b s ss fs) h):aB [iK (some (b,0)) fs] h:=mem_cl hb (by rw [append_nil]; exact st)
namespace Mem
def has (fs:List (List Int)) (f a:Int):Prop:=0 <= f/\f < fs.length/\0 <= a/\a < 16
instance (fs:List (List Int)) (f a:Int):Decidable (has fs f a):=by unfold has; infer_instance
def word (fs:List (List Int)) (f a:Int):Int:=(fs.getD f.toNat []).getD a.toNat 0
def load (fs:List (List Int)) (f a:Int):Int × Bool:=if has fs f a then (word fs f a,true) else (0,false)
def put (fs:List (List Int)) (f a v:Int):List (List Int):=fs.set f.toNat ((fs.getD f.toNat []).set a.toNat v)
def store (fs:List (List Int)) (f a v:Int):Bool × List (List Int):=if has fs f a then (true,put fs f a v) else (false,fs)
end Mem
theorem sm (x:Sl):(cS x).length = 1:=rfl
def memAt (ss:List Sl) (fs:List (List Int)) (f a:Int) (r:Ptr):Prop :=
 if Mem.has fs f a then ∃ s q,ss[f.toNat]? = some s/\s.a = some q/\r = some (q.1,q.2 + a.toNat * 1) else r = none
theorem sp_mem_at (b:Nat) (s:Sl) (ss:List Sl) (fs:List (List Int)) (hb:MemOk ss fs) (f a:Int):Sp prog mK [pv (some (b,0)),.int .i64 f,.int .i64 a] tB (yp b s ss fs) (fun r=>pa_ (memAt ss fs f a r) (yp b s ss fs)):=by
 intro h st
 refine sim_mem_Mem_at _ _ _ ?_
 unfold sh_mem_Mem_at
 have hno:∀ {p:Prop},¬ p->(Mem.has fs f a->p)->memAt ss fs f a none:=fun hp himp=>by unfold memAt; rw [if_neg (fun hh=>hp (himp hh))]
 have hl:s.len = fs.length:=(cc (j:=1) st rfl).1.trans hb.len
 refine aY (fun k=>?_) (fun k=>?_)
 ·have h0:0 <= f:=by simpa using k
  unfold cl
  refine sim_mem_Mem_Frames _ ?_
  unfold uW
  refine dO rfl (cL (bp s st (i:=0) rfl rfl rfl ?_))
  refine aY (fun k2=>?_) (fun k2=>?_)
  ·have k2':¬ (f < fs.length/\0 <= a/\a < 16):=by simp [hl] at k2; omega
   exact aZ (hno k2' (fun hh=>hh.2)) st
  ·have k2':f < fs.length/\0 <= a/\a < 16:=by simp [hl] at k2; omega
   obtain ⟨n,rfl⟩:=Int.eq_ofNat_of_zero_le h0
   have hn:n < ss.length:=by rw [hb.len]; omega
   have hf:n < fs.length:=by omega
   refine cL (bp s st (i:=0) rfl rfl rfl ?_)
   refine cZ st (j:=1) rfl (by omega) (by omega) fun q hq=>?_
   refine dz (j:=1) (i:=n) (k:=0) ss[n] sm st rfl hq (by simp) (aE hn) (by simp) ?_
   have hr:(yp b s ss fs)[2 + n]? = some (vU ss[n] fs[n]):=by
    show (blk b mA [sv s]::vec bf 1 cS s ss::rows ss fs)[2 + n]? = _
    rw [add_comm,getElem?_cons_succ,getElem?_cons_succ]
    exact rows_get ss fs n _ _ (aE hn) (aE hf)
   have hlen:fs[n].length = 16:=hb.row _ (getElem_mem hf)
   refine cZ st (j:=2 + n) hr (by omega) (by omega) fun q2 hq2=>?_
   refine aZ ?_ st
   unfold memAt
   rw [if_pos ⟨h0,k2'⟩]
   exact ⟨ss[n],q2,by simp [hn],hq2,rfl⟩
 ·have k':¬ 0 <= f:=by simpa using k
  exact aZ (hno k' (fun hh=>hh.1)) st
theorem rx (x:Ptr) (fs:List (List Int)) (f a:Int):Sp prog iF [pv x,.int .i64 f,.int .i64 a] bN [iK x fs] (fun r=>pa_ (r = Mem.load fs f a) [iK x fs]):=by
 intro h s0
 obtain ⟨b,s,ss,rfl,hb,hl,st⟩:=mem_op s0
 refine sim_mem_Mem_Load _ _ _ ?_
 unfold sh_mem_Mem_Load
 rw [append_nil] at st
 refine cW (rest:=[]) [] (sp_mem_at b s ss fs hb f a) st (append_nil _).symm fun r h' s1=>?_
 obtain ⟨hr,s2⟩:=bt.1 s1
 rw [append_nil] at s2
 by_cases hh:Mem.has fs f a
 ·unfold memAt at hr
  rw [if_pos hh] at hr
  obtain ⟨sr,q,h1,h2,rfl⟩:=hr
  obtain ⟨g1,g2,g3,g4⟩:=hh
  have hf:f.toNat < fs.length:=by omega
  have hrow:(yp b s ss fs)[2 + f.toNat]? = some (vU sr fs[f.toNat]):=by
   show (blk b mA [sv s]::vec bf 1 cS s ss::rows ss fs)[2 + f.toNat]? = _
   rw [add_comm,getElem?_cons_succ,getElem?_cons_succ]
   exact rows_get ss fs _ _ _ h1 (aE hf)
  have hlen:fs[f.toNat].length = 16:=hb.row _ (getElem_mem hf)
  have ha:a.toNat < fs[f.toNat].length:=by omega
  refine dO rfl (cL ?_)
  refine dz (j:=2 + f.toNat) (i:=a.toNat) (k:=0) (q:=q) fs[f.toNat][a.toNat] (ct _) s2 hrow h2 (by simp) (aE ha) (by simp) ?_
  refine aZ ?_ (tb hb s2)
  unfold Mem.load
  rw [if_pos ⟨g1,g2,g3,g4⟩]
  simp [Mem.word,hf,ha]
 ·unfold memAt at hr
  rw [if_neg hh] at hr
  subst hr
  refine eD rfl ?_
  refine aZ ?_ (tb hb s2)
  unfold Mem.load
  rw [if_neg hh]
theorem mC (x:Ptr) (fs:List (List Int)) (f a v:Int):Sp prog fT [pv x,.int .i64 f,.int .i64 a,.int .u64 v] aC [iK x fs] (fun r=>pa_ (r = (Mem.store fs f a v).1) [iK x (Mem.store fs f a v).2]):=by
 intro h s0
 obtain ⟨b,s,ss,rfl,hb,hl,st⟩:=mem_op s0
 refine sim_mem_Mem_Store _ _ _ _ ?_
 unfold wO
 rw [append_nil] at st
 refine cW (rest:=[]) [] (sp_mem_at b s ss fs hb f a) st (append_nil _).symm fun r h' s1=>?_
 obtain ⟨hr,s2⟩:=bt.1 s1
 rw [append_nil] at s2
 by_cases hh:Mem.has fs f a
 ·unfold memAt at hr
  rw [if_pos hh] at hr
  obtain ⟨sr,q,h1,h2,rfl⟩:=hr
  have e:Mem.store fs f a v = (true,Mem.put fs f a v):=if_pos hh
  rw [e]
  obtain ⟨g1,g2,g3,g4⟩:=hh
  have hf:f.toNat < fs.length:=by omega
  have hrow:(yp b s ss fs)[2 + f.toNat]? = some (vU sr fs[f.toNat]):=by
   show (blk b mA [sv s]::vec bf 1 cS s ss::rows ss fs)[2 + f.toNat]? = _
   rw [add_comm,getElem?_cons_succ,getElem?_cons_succ]
   exact rows_get ss fs _ _ _ h1 (aE hf)
  have hlen:fs[f.toNat].length = 16:=hb.row _ (getElem_mem hf)
  have ha:a.toNat < fs[f.toNat].length:=by omega
  refine dO rfl (cL ?_)
  refine uF (j:=2 + f.toNat) (i:=a.toNat) (k:=0) (q:=q) v (ct _) s2 hrow h2 (by simp) (aE ha) (by simp) rfl fun h3 s3=>?_
  have eG:(yp b s ss fs).set (2 + f.toNat) (vU sr (fs[f.toNat].set a.toNat v)) = yp b s ss (Mem.put fs f a v):=by
   show (blk b mA [sv s]::vec bf 1 cS s ss::rows ss fs).set (2 + f.toNat) _ = _
   rw [add_comm,set_cons_succ,set_cons_succ,rows_set ss fs _ _ _ h1]
   simp [yp,Mem.put,hf]
  rw [eG] at s3
  refine aZ rfl (tb ⟨by simp [Mem.put,hb.len],by simpa [Mem.put] using hb.le,?_⟩ s3)
  intro g hg
  unfold Mem.put at hg
  rcases mem_or_eq_of_mem_set hg with h4 | h4
  ·exact hb.row _ h4
  ·rw [h4]; simp [hf,hlen]
 ·unfold memAt at hr
  rw [if_neg hh] at hr
  subst hr
  have e:Mem.store fs f a v = (false,fs):=if_neg hh
  rw [e]
  exact eD rfl (aZ rfl (tb hb s2))
namespace Mem
def cas (fs:List (List Int)) (f a o v:Int):(Int × Bool) × List (List Int) :=
 (load fs f a,if (load fs f a).2 && ((load fs f a).1 == o) then (store fs f a v).2 else fs)
def add (fs:List (List Int)) (f a v:Int):(Int × Bool) × List (List Int) :=
 (load fs f a,(store fs f a (u64.wrap ((load fs f a).1 + v))).2)
def zero (fs:List (List Int)) (f:Int):Bool × List (List Int) :=
 if has fs f 0 then (true,fs.set f.toNat (replicate 16 0)) else (false,fs)
def frame (fs:List (List Int)) (f:Int):List Int:=if has fs f 0 then fs.getD f.toNat [] else []
end Mem
theorem sp_mem_Cas (x:Ptr) (fs:List (List Int)) (f a o v:Int):Sp prog re [pv x,.int .i64 f,.int .i64 a,.int .u64 o,.int .u64 v] bN [iK x fs] (fun r=>pa_ (r = (Mem.cas fs f a o v).1) [iK x (Mem.cas fs f a o v).2]):=by
 intro h s0
 refine sim_mem_Mem_Cas _ _ _ _ _ ?_
 unfold sh_mem_Mem_Cas
 refine cW [0] (rx x fs f a) s0 rfl fun r h' s1=>?_
 obtain ⟨hr,s2⟩:=bt.1 s1
 subst hr
 refine aY (fun k=>?_) (fun k=>?_)
 ·refine cW [0] (mC x fs f a v) s2 rfl fun r h' s3=>?_
  obtain ⟨_,s4⟩:=bt.1 s3
  refine aZ rfl ?_
  simp only [Mem.cas,k,if_true]
  exact s4
 ·refine aZ rfl ?_
  simp only [Mem.cas,k,Bool.false_eq_true,if_false]
  exact s2
theorem sp_mem_Add (x:Ptr) (fs:List (List Int)) (f a v:Int):Sp prog rf [pv x,.int .i64 f,.int .i64 a,.int .u64 v] bN [iK x fs] (fun r=>pa_ (r = (Mem.add fs f a v).1) [iK x (Mem.add fs f a v).2]):=by
 intro h s0
 refine sim_mem_Mem_Add _ _ _ _ ?_
 unfold sh_mem_Mem_Add
 refine cW [0] (rx x fs f a) s0 rfl fun r h' s1=>?_
 obtain ⟨hr,s2⟩:=bt.1 s1
 subst hr
 refine cW [0] (mC x fs f a _) s2 rfl fun r h' s3=>?_
 obtain ⟨_,s4⟩:=bt.1 s3
 exact aZ rfl s4
theorem sp_slices_Clone (s:Sl) (xs:List Int) (hb:xs.length < 2 ^ 40):Sp prog gO [sv s] ch [vU s xs] (fun r=>aB [vU r xs,vU s xs]):=by
 intro h s0
 refine qM _ ?_
 unfold kw
 refine aY (fun k=>?_) (fun k=>?_)
 ·have hn:xs = []:=by
   obtain ⟨_,⟨e1,e2,e3⟩,_⟩:=dV (i:=0) rfl s0
   rcases e3 with e3 | ⟨b,pre,rest,U,fr,h4,_⟩
   ·exact List.eq_nil_of_length_eq_zero (by omega)
   ·rw [h4] at k; cases k
  subst hn
  exact fX s0
 ·refine fP (τ:=Int) [] (val:=fun x=>.int .u64 x) (enc:=cI .u64) gm (ct _) (fun _=>rfl) s0 rfl rfl (by simp) fun y h' s1=>?_
  refine uB (τ:=Int) (i:=0) (j:=1) (enc:=cI .u64) (xs:=[]) (ys:=xs) gm gm.sl (ct _) (oneI _) s1 rfl rfl (by omega) (by simp; omega) (by simp; omega) fun v h2 s2=>?_
  exact s2
theorem mem_has {ss:List Sl} {fs:List (List Int)} {f a:Int} {r:Ptr} (hr:memAt ss fs f a r):(Mem.has fs f a↔r ≠ none):=by
 unfold memAt at hr
 split at hr
 ·obtain ⟨s,q,_,_,rfl⟩:=hr; simp [*]
 ·simp [*]
theorem mem_row {b:Nat} {s:Sl} {ss:List Sl} {fs:List (List Int)} {i:Nat} (hb:MemOk ss fs) (hi:i < fs.length):∃ sr,ss[i]? = some sr/\(yp b s ss fs)[2 + i]? = some (vU sr fs[i]):=by
 have hn:i < ss.length:=by rw [hb.len]; exact hi
 refine ⟨ss[i],aE hn,?_⟩
 show (blk b mA [sv s]::vec bf 1 cS s ss::rows ss fs)[2 + i]? = _
 rw [add_comm,getElem?_cons_succ,getElem?_cons_succ]
 exact rows_get ss fs i _ _ (aE hn) (aE hi)
theorem mem_set {b:Nat} {s:Sl} {ss:List Sl} {fs:List (List Int)} {i:Nat} {sr:Sl} {g:List Int} (h1:ss[i]? = some sr):(yp b s ss fs).set (2 + i) (vU sr g) = yp b s ss (fs.set i g):=by
 show (blk b mA [sv s]::vec bf 1 cS s ss::rows ss fs).set (2 + i) _ = _
 rw [add_comm,set_cons_succ,set_cons_succ,rows_set ss fs _ _ _ h1]; rfl
theorem mem_ok_set {ss:List Sl} {fs:List (List Int)} {i:Nat} {g:List Int} (hb:MemOk ss fs) (hg:g.length = 16):MemOk ss (fs.set i g) :=
 ⟨by simp [hb.len],by simpa using hb.le,fun f hf=>by
  rcases mem_or_eq_of_mem_set hf with h4 | h4
  ·exact hb.row _ h4
  ·rw [h4]; exact hg⟩
theorem sp_mem_Zero (x:Ptr) (fs:List (List Int)) (f:Int):Sp prog ud [pv x,.int .i64 f] aC [iK x fs] (fun r=>pa_ (r = (Mem.zero fs f).1) [iK x (Mem.zero fs f).2]):=by
 intro h s0
 obtain ⟨b,s,ss,rfl,hb,hl,st⟩:=mem_op s0
 refine sim_mem_Mem_Zero _ _ ?_
 unfold sh_mem_Mem_Zero
 rw [append_nil] at st
 refine cW (rest:=[]) [] (sp_mem_at b s ss fs hb f 0) st (append_nil _).symm fun r h' s1=>?_
 obtain ⟨hr,s2⟩:=bt.1 s1
 rw [append_nil] at s2
 have hh:=mem_has hr
 refine aY (fun k=>?_) (fun k=>?_)
 ·have:¬ Mem.has fs f 0:=by rw [hh]; cases r <;> simp_all
  have e:Mem.zero fs f = (false,fs):=if_neg this
  rw [e]
  exact aZ rfl (tb hb s2)
 ·have hy:Mem.has fs f 0:=by rw [hh]; cases r <;> simp_all
  have e:Mem.zero fs f = (true,fs.set f.toNat (replicate 16 0)):=if_pos hy
  rw [e]
  obtain ⟨g1,g2,_⟩:=hy
  obtain ⟨n,rfl⟩:=Int.eq_ofNat_of_zero_le g1
  have hf:n < fs.length:=by omega
  obtain ⟨sr,h1,hrow⟩:=mem_row (b:=b) (s:=s) hb hf
  have hn:n < ss.length:=by rw [hb.len]; exact hf
  refine cL (bp s s2 (i:=0) rfl rfl rfl ?_)
  refine cZ s2 (j:=1) rfl (by omega) (by omega) fun q hq=>?_
  refine dz (j:=1) (i:=n) (k:=0) sr sm s2 rfl hq (by simp) h1 (by simp) ?_
  refine clear_v (τ:=Int) (x0:=0) (enc:=cI .u64) gm rfl (ct _) (oneI _) s2 hrow fun h3 s3=>?_
  rw [mem_set h1,hb.row _ (getElem_mem hf)] at s3
  exact aZ rfl (tb (mem_ok_set hb (by simp)) s3)
theorem sp_mem_Frame (x:Ptr) (fs:List (List Int)) (f:Int):Sp prog sd [pv x,.int .i64 f] ch [iK x fs] (fun r=>aB [vU r (Mem.frame fs f),iK x fs]):=by
 intro h s0
 obtain ⟨b,s,ss,rfl,hb,hl,st⟩:=mem_op s0
 refine sim_mem_Mem_Frame _ _ ?_
 unfold wP
 rw [append_nil] at st
 refine cW (rest:=[]) [] (sp_mem_at b s ss fs hb f 0) st (append_nil _).symm fun r h' s1=>?_
 obtain ⟨hr,s2⟩:=bt.1 s1
 rw [append_nil] at s2
 have hh:=mem_has hr
 refine aY (fun k=>?_) (fun k=>?_)
 ·have:¬ Mem.has fs f 0:=by rw [hh]; cases r <;> simp_all
  have e:Mem.frame fs f = []:=if_neg this
  rw [e]
  exact fX (tb hb s2)
 ·have hy:Mem.has fs f 0:=by rw [hh]; cases r <;> simp_all
  have e:Mem.frame fs f = fs.getD f.toNat []:=if_pos hy
  rw [e]
  obtain ⟨g1,g2,_⟩:=hy
  obtain ⟨n,rfl⟩:=Int.eq_ofNat_of_zero_le g1
  have hf:n < fs.length:=by omega
  obtain ⟨sr,h1,hrow⟩:=mem_row (b:=b) (s:=s) hb hf
  have hn:n < ss.length:=by rw [hb.len]; exact hf
  have hlen:=hb.row _ (getElem_mem hf)
  refine cL (bp s s2 (i:=0) rfl rfl rfl ?_)
  refine cZ s2 (j:=1) rfl (by omega) (by omega) fun q hq=>?_
  refine dz (j:=1) (i:=n) (k:=0) sr sm s2 rfl hq (by simp) h1 (by simp) ?_
  have hp:pick [2 + n] (yp b s ss fs) = [vU sr fs[n]]++(yp b s ss fs).eraseIdx (2 + n):=by
   unfold pick; rw [hrow]; rfl
  refine cW [2 + n] (sp_slices_Clone sr fs[n] (by omega)) s2 hp fun r2 h3 s3=>?_
  have e2:fs.getD (n:Int).toNat [] = fs[n]:=by simp [hf]
  rw [e2]
  have hlt:=(List.getElem?_eq_some_iff.1 hrow).1
  refine star_tail (dE s3) fun h4 s4=>?_
  have s5:=dP hlt s4
  rw [mem_set h1] at s5
  exact tb hb (by simpa using s5)
theorem sp_mem_New (n:Int) (h1:¬ n < 1) (h2:¬ n > 16):Sp prog xa [.int .i64 n] uE [] (fun r=>aB [iK r (replicate n.toNat (replicate 16 0))]):=by
 intro h st
 refine sim_mem_New _ ?_
 unfold sh_mem_New
 obtain ⟨m,rfl⟩:=Int.eq_ofNat_of_zero_le (show 0 <= n by omega)
 refine dO (by simp; omega) ?_
 refine pG st fun b h' s1=>?_
 refine Lp.intro (fun (i:Int) h=>∃ (k:Nat) (s:Sl) (ss:List Sl),i = k/\k <= m/\ss.length = k/\aB (yp b s ss (replicate k (replicate 16 0))) h) (fun (i:Int) _=>m - i.toNat)
  ⟨0,⟨none,0,0,none⟩,[],rfl,Nat.zero_le _,rfl,bb [1] (fX s1) rfl⟩ ?_
 rintro i h ⟨k,s,ss,rfl,hk,hss,s2⟩
 unfold mem_New_l1
 refine aY (fun c=>?_) (fun c=>?_)
 ·have hlt:k < m:=by simpa using c
  have hw:i64.wrap ((k:Int) + 1) = ((k + 1:Nat):Int):=by rw [bm (by omega) (by omega)]; rfl
  refine bp s s2 (i:=0) rfl rfl rfl ?_
  refine oO (τ:=Int) (x0:=0) (enc:=cI .u64) (n:=16) gm rfl s2 (by omega) (by omega) fun v h3 s3=>?_
  refine fP (τ:=Sl) [v] (val:=sv) (enc:=cS) vN sm (fun _=>rfl) s3 rfl rfl (by simp) fun y h4 s4=>?_
  refine uB (τ:=Sl) (i:=3) (j:=0) (enc:=cS) (xs:=ss) (ys:=[v]) vN vN.sl sm oneS s4 rfl rfl (by omega) (by simp; omega) (by simp; omega) fun w h5 s5=>?_
  refine uG (i:=2) s5 rfl (Nat.le_refl _) fun h6 s6=>?_
  rw [hw]
  refine ⟨⟨k + 1,w,ss++[v],rfl,hlt,by simp [hss],?_⟩,by simp; omega⟩
  have s7:aB (vU v (replicate 16 0)::blk b mA [sv w]::vec bf 1 cS w (ss++[v])::rows ss (replicate k (replicate 16 0))) h6:=cd (l:=[vec bf 1 cS y [v]]) s6
  have s8:=bb [1,1] s7 rfl
  unfold yp
  rw [show replicate (k + 1) (replicate 16 (0:Int)) = replicate k (replicate 16 0)++[replicate 16 0] from by simp [List.replicate_succ'],rows_app _ _ _ _ (by simp [hss])]
  exact kX (.cons _ (.cons _ (List.perm_append_comm (l₁:=[_])))) s8
 ·have:k = m:=by simp at c; omega
  subst this
  exact tb ⟨by simp [hss],by simp; omega,fun f hf=>by rw [(mem_replicate.1 hf).2]; simp⟩ s2
end
section
open Go Mb
def ny (a0:Int) (K:Sl->Hp->Prop) (s27:Bool):Hp->Prop:=br s27 ( hpv prog (Instr.buildSlice dU 3 #[(0,(.int .i64 1)),(1,(.int .i64 2)),(2,(.int .i64 6))]) cC fun (v33:Sl)=>K v33) ( br (a0 == 22) ( hpv prog (Instr.buildSlice dU 4 #[(0,(.int .i64 1)),(1,(.int .i64 2)),(2,(.int .i64 6)),(3,(.int .i64 6))]) cC fun (v36:Sl)=>K v36) ( K (⟨none,0,0,none⟩:Sl)))
def jE (a0:Int) (K:Sl->Hp->Prop) (s1:Bool):Hp->Prop:=br s1 ( hpv prog (Instr.buildSlice dU 1 #[(0,(.int .i64 0))]) cC fun (v8:Sl)=>K v8) ( br (a0 == 2) ( hpv prog (Instr.buildSlice dU 3 #[(0,(.int .i64 0)),(1,(.int .i64 0)),(2,(.int .i64 4))]) cC fun (v11:Sl)=>K v11) ( br (a0 == 3) ( hpv prog (Instr.buildSlice dU 4 #[(0,(.int .i64 0)),(1,(.int .i64 3)),(2,(.int .i64 0)),(3,(.int .i64 4))]) cC fun (v14:Sl)=>K v14) ( br (a0 == 6) ( hpv prog (Instr.buildSlice dU 3 #[(0,(.int .i64 1)),(1,(.int .i64 0)),(2,(.int .i64 4))]) cC fun (v17:Sl)=>K v17) ( br (a0 == 7) ( hpv prog (Instr.buildSlice dU 1 #[(0,(.int .i64 1))]) cC fun (v20:Sl)=>K v20) ( br (a0 == 8) ( hpv prog (Instr.buildSlice dU 2 #[(0,(.int .i64 1)),(1,(.int .i64 4))]) cC fun (v23:Sl)=>K v23) ( br (a0 == 9) ( hpv prog (Instr.buildSlice dU 4 #[(0,(.int .i64 0)),(1,(.int .i64 2)),(2,(.int .i64 5)),(3,(.int .i64 6))]) cC fun (v26:Sl)=>K v26) ( br (a0 == 20) ( hpv prog (Instr.buildSlice dU 2 #[(0,(.int .i64 1)),(1,(.int .i64 2))]) cC fun (v29:Sl)=>K v29) ( br (a0 == 21) ( ny a0 K (a0 == 21)) ( ny a0 K (a0 == 23))))))))))
def sh_word_kinds (a0:Int) (K:Sl->Hp->Prop):Hp->Prop:=br (a0 == 1) ( jE a0 K (a0 == 1)) ( br (a0 == 4) ( jE a0 K (a0 == 4)) ( jE a0 K (a0 == 5)))
theorem sim_word_kinds (a0:Int) {K:Sl->Hp->Prop} {h:Hp} (H:sh_word_kinds a0 K h):cl prog sZ [(.int .i64 a0)] cC K h:=z_i func153 p p fun _=>O<|U p<|am<|O<|M p<|ae<|aw<|eC (jE a0 K) (fun s1=>[(3,(.int .i64 a0)),(4,(.bool s1))]) (fun s1=>[]) (O<|J (bP p p)<|U p<|ax p H (fun k37 H38=>ap<|cE (a0 == 1) H38 (.cons p<|.cons p<|.nil _) .slnil) fun k37 H38=>O<|J (bP p p)<|U p<|ax p H38 (fun k39 H40=>ap<|cE (a0 == 4) H40 (.cons p<|.cons p<|.nil _) .slnil) fun k39 H40=>aq<|J (bP p p)<|U p<|cE (a0 == 5) H40 (.cons p<|.cons p<|.nil _) .slnil) fun s1 _ H2=>ax p H2 (fun k3 H4=>O<|aa<|aV H4 (bE (vs:=[(.int .i64 0)]) p) p fun v8 _ H5=>U p<|aj<|Z ⟨v8,p,H5⟩) fun k3 H4=>O<|J (bP p p)<|U p<|ax p H4 (fun k6 H7=>O<|aa<|aV H7 (bE (vs:=[(.int .i64 0),(.int .i64 0),(.int .i64 4)]) p) p fun v11 _ H8=>U p<|aj<|Z ⟨v11,p,H8⟩) fun k6 H7=>O<|J (bP p p)<|U p<|ax p H7 (fun k9 H10=>O<|aa<|aV H10 (bE (vs:=[(.int .i64 0),(.int .i64 3),(.int .i64 0),(.int .i64 4)]) p) p fun v14 _ H11=>U p<|aj<|Z ⟨v14,p,H11⟩) fun k9 H10=>O<|J (bP p p)<|U p<|ax p H10 (fun k12 H13=>O<|aa<|aV H13 (bE (vs:=[(.int .i64 1),(.int .i64 0),(.int .i64 4)]) p) p fun v17 _ H14=>U p<|aj<|Z ⟨v17,p,H14⟩) fun k12 H13=>O<|J (bP p p)<|U p<|ax p H13 (fun k15 H16=>O<|aa<|aV H16 (bE (vs:=[(.int .i64 1)]) p) p fun v20 _ H17=>U p<|aj<|Z ⟨v20,p,H17⟩) fun k15 H16=>O<|J (bP p p)<|U p<|ax p H16 (fun k18 H19=>O<|aa<|aV H19 (bE (vs:=[(.int .i64 1),(.int .i64 4)]) p) p fun v23 _ H20=>U p<|aj<|Z ⟨v23,p,H20⟩) fun k18 H19=>O<|J (bP p p)<|U p<|ax p H19 (fun k21 H22=>O<|aa<|aV H22 (bE (vs:=[(.int .i64 0),(.int .i64 2),(.int .i64 5),(.int .i64 6)]) p) p fun v26 _ H23=>U p<|aj<|Z ⟨v26,p,H23⟩) fun k21 H22=>O<|J (bP p p)<|U p<|ax p H22 (fun k24 H25=>O<|aa<|aV H25 (bE (vs:=[(.int .i64 1),(.int .i64 2)]) p) p fun v29 _ H26=>U p<|aj<|Z ⟨v29,p,H26⟩) fun k24 H25=>eC (ny a0 K) (fun s27=>[(3,(.int .i64 a0)),(30,(.bool s27))]) (fun s27=>[]) (O<|J (bP p p)<|U p<|ax p H25 (fun k35 H36=>ap<|cE (a0 == 21) H36 (.cons p<|.cons p<|.nil _) .slnil) fun k35 H36=>aq<|J (bP p p)<|U p<|cE (a0 == 23) H36 (.cons p<|.cons p<|.nil _) .slnil) fun s27 _ H28=>ax p H28 (fun k29 H30=>O<|aa<|aV H30 (bE (vs:=[(.int .i64 1),(.int .i64 2),(.int .i64 6)]) p) p fun v33 _ H31=>U p<|aj<|Z ⟨v33,p,H31⟩) fun k29 H30=>O<|J (bP p p)<|U p<|ax p H30 (fun k32 H33=>O<|aa<|aV H33 (bE (vs:=[(.int .i64 1),(.int .i64 2),(.int .i64 6),(.int .i64 6)]) p) p fun v36 _ H34=>U p<|aj<|Z ⟨v36,p,H34⟩) fun k32 H33=>ap<|O<|U p<|aj<|Z ⟨(⟨none,0,0,none⟩:Sl),p,H33⟩
def uK (a0:ak) (a1:Int) (K:(Int × Bool)->Hp->Prop) (s1:Bool):Hp->Prop:=br s1 ( K (0,false)) ( gd (0 <= a1/\a1 < 5)<|K ((i64.wrap (ak.get a0 a1)),true))
def sh_word_Arg (a0:ak) (a1:Int) (a2:Int) (K:(Int × Bool)->Hp->Prop):Hp->Prop:=br (!(((decide (a1 < 1)) || (decide (a1 >= 5))) || (decide (a2 <= 0)))) ( gd (0 <= a1/\a1 < 5)<|uK a0 a1 K (decide ((ak.get a0 a1) >= (u64.wrap a2)))) ( uK a0 a1 K true)
theorem sim_word_Arg (a0:ak) (a1:Int) (a2:Int) {K:(Int × Bool)->Hp->Prop} {h:Hp} (H:sh_word_Arg a0 a1 a2 K h):cl prog oe [(.agg (ak.C a0).toArray),(.int .i64 a1),(.int .i64 a2)] bI K h:=z_i func160 p p fun _=>O<|aa<|cD (l:=ak.C a0) p p p fun b3=>J (av p)<|U p<|am<|eC (uK a0 a1 K) (fun s1=>[(1,(.int .i64 a1)),(3,(.pointer (some ⟨b3,0,none⟩))),(25,(.bool s1))]) (fun s1=>[bx b3 34 (ak.C a0)]) (aq<|M p<|J (cj p p)<|M p<|W p p (aL _) (fun g7=>wv<|ai p)<|W p p (aL _) (fun g8=>wv<|jF (aG p g8) p)<|J (dy p p)<|M p<|W p p (aL _) (fun g9=>wv<|ai p)<|W p p (aL _) (fun g10=>wv<|v_le (aG p g10) p)<|J (dy p p)<|M p<|W p p (aL _) (fun g11=>wv<|ai p)<|bU H (fun k13 H14=>iM H14 fun h15 H16=>G (F<|bO k13)<|z_p (bC du p (aG p k13) h15)<|G (F<|bO k13)<|tY (cv<|bc (k:=0) cG p p<|at_34 _ _ h15) p<|G (F<|bO k13)<|z_p (ai p)<|G (F<|bO k13)<|z_p (dw ⟨_,underlying3⟩ underlying22 p)<|G (F<|bO k13)<|z_p (jF p p)<|J (au p (bO k13) p)<|ae<|cE (decide ((ak.get a0 a1) >= (u64.wrap a2))) H16 (.cons p<|.cons p<|.cons p<|.nil _)<|.cons_cons _ .slnil) fun k13 H14=>Y (bL<|bq k13)<|Y (bL<|bq k13)<|Y (bL<|bq k13)<|Y (bL<|bq k13)<|Y (bL<|bq k13)<|J (aS p (bq k13) p)<|ae<|cE true H14 (.cons p<|.cons p<|.cons p<|.nil _)<|.cons_cons _ .slnil) fun s1 _ H2=>ax p H2 (fun k3 H4=>O<|J (av p)<|U p<|aj<|bD (bW p (cg p)<|cg p) ⟨(0,false),p,H4⟩) fun k3 H4=>ap<|O<|M p<|iM H4 fun h5 H6=>J (bC du p p h5)<|bi (bc (k:=0) cG p p<|at_34 _ _ h5) p<|J (dw ⟨_,underlying22⟩ underlying3 p)<|J (av p)<|U p<|aj<|bD (bW p (cg p)<|cg p) ⟨((i64.wrap (ak.get a0 a1)),true),p,H6⟩
def sh_word_fits (a0:ak) (a1:Int) (a2:Int) (a3:Int) (K:Bool->Hp->Prop):Hp->Prop:=br (a2 == 0) ( cl prog oe [(.agg (ak.C a0).toArray),(.int .i64 a1),(.int .i64 8)] bI fun r16=>K r16.2) ( br (a2 == 1) ( cl prog oe [(.agg (ak.C a0).toArray),(.int .i64 a1),(.int .i64 8)] bI fun r24=>K r24.2) ( br (a2 == 2) ( cl prog oe [(.agg (ak.C a0).toArray),(.int .i64 a1),(.int .i64 16)] bI fun r32=>K r32.2) ( br (a2 == 3) ( cl prog oe [(.agg (ak.C a0).toArray),(.int .i64 a1),(.int .i64 a3)] bI fun r41=>K r41.2) ( br (a2 == 4) ( gd (0 <= a1/\a1 < 5)<|K ((iC (ak.get a0 a1)).2)) ( br (a2 == 5) ( gd (0 <= a1/\a1 < 5)<|K ((decide ((ak.get a0 a1) >= 1)) && (decide ((ak.get a0 a1) <= 4)))) ( K true))))))
theorem sim_word_fits (a0:ak) (a1:Int) (a2:Int) (a3:Int) {K:Bool->Hp->Prop} {h:Hp} (H:sh_word_fits a0 a1 a2 a3 K h):cl prog n_word_fits [(.agg (ak.C a0).toArray),(.int .i64 a1),(.int .i64 a2),(.int .i64 a3)] aC K h:=z_i func154 p p fun _=>O<|aa<|cD (l:=ak.C a0) p p p fun b4=>U p<|O<|U p<|am<|O<|M p<|ae<|aw<|O<|J (bP p p)<|U p<|ax p H (fun k1 H2=>aq<|bi (bH (k:=0) fH p p p p) p<|M p<|aa<|D H2 en_160 fun r16 _ H3=>M p<|J (al p p)<|J (al p p)<|U p<|O<|M p<|U p<|aj<|Z ⟨r16.2,p,H3⟩) fun k1 H2=>O<|J (bP p p)<|U p<|ax p H2 (fun k4 H5=>aq<|bi (bH (k:=0) fH p p p p) p<|M p<|aa<|D H5 en_160 fun r24 _ H6=>M p<|J (al p p)<|J (al p p)<|U p<|O<|M p<|U p<|aj<|Z ⟨r24.2,p,H6⟩) fun k4 H5=>O<|J (bP p p)<|U p<|ax p H5 (fun k7 H8=>aq<|bi (bH (k:=0) fH p p p p) p<|M p<|aa<|D H8 en_160 fun r32 _ H9=>M p<|J (al p p)<|J (al p p)<|U p<|O<|M p<|U p<|aj<|Z ⟨r32.2,p,H9⟩) fun k7 H8=>O<|J (bP p p)<|U p<|ax p H8 (fun k10 H11=>aq<|bi (bH (k:=0) fH p p p p) p<|M p<|M p<|aa<|D H11 en_160 fun r41 _ H12=>M p<|J (al p p)<|J (al p p)<|U p<|O<|M p<|U p<|aj<|Z ⟨r41.2,p,H12⟩) fun k10 H11=>O<|J (bP p p)<|U p<|ax p H11 (fun k13 H14=>aq<|M p<|iM H14 fun h15 H16=>J (bC du p p h15)<|bi (bc (k:=0) cG p p<|at_34 _ _ h15) p<|aa<|cH (vs:=[(.int .u64 (ak.get a0 a1))]) (bv<|ct_word_Rights (ak.get a0 a1) _) en_193 p p<|M p<|J (al p p)<|J (al p p)<|U p<|O<|M p<|U p<|aj<|Z ⟨(iC (ak.get a0 a1)).2,p,H16⟩) fun k13 H14=>O<|J (bP p p)<|U p<|ax p H14 (fun k17 H18=>aq<|M p<|iM H18 fun h19 H20=>J (bC du p p h19)<|bi (bc (k:=0) cG p p<|at_34 _ _ h19) p<|J (jF p p)<|M p<|W p p (ay _) (fun g21=>wv<|ai p)<|W p p (ay _) (fun g22=>wv<|bC du p (aG p g22) h19)<|W p p (ay _) (fun g23=>cv<|bc (k:=0) cG (aG p g23) p<|at_34 _ _ h19)<|W p p (ay _) (fun g24=>wv<|v_le (aG p g24) p)<|J (bQ p p)<|U p<|O<|M p<|U p<|aj<|Z ⟨((decide ((ak.get a0 a1) >= 1)) && (decide ((ak.get a0 a1) <= 4))),p,H20⟩) fun k17 H18=>ap<|O<|M p<|U p<|aj<|Z ⟨true,p,H18⟩
def vV (a0:ak) (a1:Int) (K:Int->Hp->Prop) (r17:Sl) (Rec5:Int->Hp->Prop) (s4:Int):Hp->Prop:=br (decide (s4 < (r17.len:Int))) ( ix r17 s4 fun q22=>ld (q22.1,q22.2 + Int.toNat s4 * 1) (cI .i64) fun x23=>cl prog n_word_fits [(.agg (ak.C a0).toArray),(.int .i64 (i64.wrap (s4 + 1))),(.int .i64 x23),(.int .i64 a1)] aC fun r29=>br (!r29) ( K 2) ( Rec5 (i64.wrap (s4 + 1)))) ( K 0)
def sh_word_Check (a0:ak) (a1:Int) (K:Int->Hp->Prop):Hp->Prop:=br (!(az a0).2) ( K 1) ( cl prog sZ [(.int .i64 ((az a0).1))] cC fun r17=>Lp (vV a0 a1 K r17) 0)
theorem sim_word_Check (a0:ak) (a1:Int) {K:Int->Hp->Prop} {h:Hp} (H:sh_word_Check a0 a1 K h):cl prog ie [(.agg (ak.C a0).toArray),(.int .i64 a1)] bj K h:=z_i func110 p p fun _=>O<|aa<|cD (l:=ak.C a0) p p p fun b2=>U p<|O<|bi (bH (k:=0) fH p p p p) p<|aa<|cH (vs:=[(.agg (ak.C a0).toArray)]) (bv<|kN a0 _) en_63 p p<|M p<|J (al p p)<|J (al p p)<|J (av p)<|U p<|am<|O<|M p<|J (cy p)<|ae<|ax p H (fun k1 H2=>O<|U p<|aj<|Z ⟨1,p,H2⟩) fun k1 H2=>ap<|am<|O<|M p<|aa<|D H2 en_153 fun r17 _ H3=>J (dA p underlying39 p)<|M p<|ae<|aw<|bz (step:=vV a0 a1 K r17) (fun s4=>[(1,(.int .i64 a1)),(2,(.pointer (some ⟨b2,0,none⟩))),(17,(sv r17)),(18,(.int .i64 (r17.len:Int))),(19,(.int .i64 s4))]) (fun s4=>[bx b2 34 (ak.C a0)]) H3 (.cons p<|.cons p<|.cons p<|.cons p<|.cons p<|.nil _) (.cons_cons _ .slnil) fun Rec5 s4 _ H6=>O<|J (cj p p)<|ae<|am<|ax p H6 (fun k7 H8=>ap<|am<|aw<|O<|M p<|cq H8 fun q22 e9 h10 H11=>J (be dF (aJ p<|aX e9) p h10)<|aa<|aW H11 ba p (fun _=>p) p fun x23 H12=>J (av p)<|U p<|O<|bi (bH (k:=0) fH p p p p) p<|M p<|J (bk p p)<|M p<|M p<|aa<|D H12 en_154 fun r29 _ H13=>J (cy p)<|ae<|ax p H13 (fun k14 H15=>O<|U p<|aj<|Z ⟨2,p,H15⟩) fun k14 H15=>ap<|aq<|J (bk p p)<|M p<|ae<|cF (i64.wrap (s4 + 1)) H15 (.cons p<|.cons p<|.cons p<|.cons p<|.cons p<|.nil _)<|.cons_cons _ .slnil) fun k7 H8=>bh<|O<|U p<|aj<|Z ⟨0,p,H8⟩
def sh_word_Args (a0:Int) (K:Int->Hp->Prop):Hp->Prop:=cl prog sZ [(.int .i64 a0)] cC fun r4=>K (r4.len:Int)
theorem sim_word_Args (a0:Int) {K:Int->Hp->Prop} {h:Hp} (H:sh_word_Args a0 K h):cl prog n_word_Args [(.int .i64 a0)] eF K h:=z_i func216 p p fun _=>O<|U p<|O<|M p<|aa<|D H en_153 fun r4 _ H1=>J (dA p underlying39 p)<|U p<|aj<|Z ⟨(r4.len:Int),p,H1⟩
end
section
open Go Mb
abbrev dp:=ak
namespace Word
def kinds (k:Int):List Int :=
 if k = 1\/k = 4\/k = 5 then [0] else if k = 2 then [0,0,4] else if k = 3 then [0,3,0,4] else if k = 6 then [1,0,4] else if k = 7 then [1] else if k = 8 then [1,4]
 else if k = 9 then [0,2,5,6] else if k = 20 then [1,2] else if k = 21\/k = 23 then [1,2,6] else if k = 22 then [1,2,6,6] else []
def arg (c:dp) (i m:Int):Int × Bool:=if i < 1\/i >= 5\/m <= 0\/ak.get c i >= u64.wrap m then (0,false) else (i64.wrap (ak.get c i),true)
def fits (c:dp) (i k envs:Int):Bool :=
 if k = 0 then (arg c i 8).2 else if k = 1 then (arg c i 8).2 else if k = 2 then (arg c i 16).2 else if k = 3 then (arg c i envs).2
 else if k = 4 then (iC (ak.get c i)).2 else if k = 5 then decide (ak.get c i >= 1) && decide (ak.get c i <= 4) else true
def checks (c:dp) (envs:Int):List Int->Int->Int
 | [],_=>0
 | k::ks,i=>if fits c i k envs = true then checks c envs ks (i + 1) else 2
def check (c:dp) (envs:Int):Int:=if (az c).2 = false then 1 else checks c envs (kinds (az c).1) 1
theorem kinds_len (k:Int):(kinds k).length <= 4:=by
 unfold kinds; repeat' split
 all_goals simp
end Word
theorem vec_nil' {xs:List Int} (hx:xs = []) {l:List As} {h:Hp} (s:aB l h):aB (vI (⟨none,0,0,none⟩:Sl) xs::l) h:=by subst hx; exact fX s
theorem iN {l:List As} {h:Hp} {K:Sl->Hp->Prop} (xs:List Int) (s:aB l h) {n:Nat} {ps:Array (Nat × Value)} (hps:ps = (pts (fun x=>.int .i64 x) 0 xs).toArray) (hn:n = xs.length) (hb:n <= 2 ^ 24)
  (k:∀ v h',aB (vI v xs::l) h'->K v h'):hpv prog (Instr.buildSlice dU n ps) cC K h :=
 fP (τ:=Int) xs (val:=fun x=>.int .i64 x) (enc:=cI .i64) el_Sint (ct _) (fun _=>rfl) s hps hn (by omega) k
theorem sp_word_kinds (k:Int):Sp prog sZ [.int .i64 k] cC [] (fun r=>aB [vI r (Word.kinds k)]):=by
 intro h st
 refine sim_word_kinds _ ?_
 unfold sh_word_kinds
 have one:∀ (xs:List Int) (v:Sl) (h':Hp),Word.kinds k = xs->aB [vI v xs] h'->aB [vI v (Word.kinds k)] h':=by
  intro xs v h' e s; rw [e]; exact s
 have j1:k = 1\/k = 4\/k = 5->jE k (fun r=>aB [vI r (Word.kinds k)]) true h:=by
  intro hk
  unfold jE
  exact eD rfl (iN [0] st rfl rfl (by decide) fun v h' s=>one _ v h' (if_pos hk) s)
 refine aY (fun c=>?_) (fun c=>?_)
 ·rw [c]; exact j1 (.inl (by simpa using c))
 have n1:k ≠ 1:=by simpa using c
 refine aY (fun c4=>?_) (fun c4=>?_)
 ·rw [c4]; exact j1 (.inr (.inl (by simpa using c4)))
 have n4:k ≠ 4:=by simpa using c4
 by_cases h5:k = 5
 ·have:(k == 5) = true:=by simpa using h5
  rw [this]; exact j1 (.inr (.inr h5))
 have:(k == 5) = false:=by simpa using h5
 rw [this]
 have hu:∀ {xs:List Int},xs = Word.kinds k->Word.kinds k = xs:=fun e=>e.symm
 unfold jE
 refine dO rfl ?_
 refine aY (fun c=>?_) (fun c=>?_)
 ·have e:k = 2:=by simpa using c
  subst e; exact iN [0,0,4] st rfl rfl (by decide) fun v h' s=>s
 refine aY (fun c=>?_) (fun c=>?_)
 ·have e:k = 3:=by simpa using c
  subst e; exact iN [0,3,0,4] st rfl rfl (by decide) fun v h' s=>s
 refine aY (fun c=>?_) (fun c=>?_)
 ·have e:k = 6:=by simpa using c
  subst e; exact iN [1,0,4] st rfl rfl (by decide) fun v h' s=>s
 refine aY (fun c=>?_) (fun c=>?_)
 ·have e:k = 7:=by simpa using c
  subst e; exact iN [1] st rfl rfl (by decide) fun v h' s=>s
 refine aY (fun c=>?_) (fun c=>?_)
 ·have e:k = 8:=by simpa using c
  subst e; exact iN [1,4] st rfl rfl (by decide) fun v h' s=>s
 refine aY (fun c=>?_) (fun c=>?_)
 ·have e:k = 9:=by simpa using c
  subst e; exact iN [0,2,5,6] st rfl rfl (by decide) fun v h' s=>s
 refine aY (fun c=>?_) (fun c=>?_)
 ·have e:k = 20:=by simpa using c
  subst e; exact iN [1,2] st rfl rfl (by decide) fun v h' s=>s
 refine aY (fun c=>?_) (fun c=>?_)
 ·have e:k = 21:=by simpa using c
  subst e
  unfold ny
  exact eD rfl (iN [1,2,6] st rfl rfl (by decide) fun v h' s=>s)
 unfold ny
 refine aY (fun c=>?_) (fun c=>?_)
 ·have e:k = 23:=by simpa using c
  subst e; exact iN [1,2,6] st rfl rfl (by decide) fun v h' s=>s
 refine aY (fun c=>?_) (fun c=>?_)
 ·have e:k = 22:=by simpa using c
  subst e; exact iN [1,2,6,6] st rfl rfl (by decide) fun v h' s=>s
 refine vec_nil' ?_ st
 simp_all [Word.kinds]
theorem rv (c:dp) (i m:Int):Sp prog oe [.agg c.C.toArray,.int .i64 i,.int .i64 m] bI [] (fun r=>pa_ (r = Word.arg c i m) []):=by
 intro h st
 refine sim_word_Arg _ _ _ ?_
 unfold sh_word_Arg
 unfold uK
 refine aY (fun k=>?_) (fun k=>?_)
 ·have k':¬ (i < 1\/i >= 5\/m <= 0):=by simp at k; omega
  refine ⟨⟨by omega,by omega⟩,aY (fun k2=>?_) (fun k2=>⟨⟨by omega,by omega⟩,?_⟩)⟩
  ·exact aZ (by unfold Word.arg; rw [if_pos (by right; right; right; simpa using k2)]) st
  ·refine aZ ?_ st
   unfold Word.arg
   have k2':¬ ak.get c i >= u64.wrap m:=by simpa using k2
   rw [if_neg (by omega)]
 ·have k':i < 1\/i >= 5\/m <= 0:=by simp at k; omega
  exact eD rfl (aZ (by unfold Word.arg; rw [if_pos (by omega)]) st)
theorem sp_word_fits (c:dp) (i k e:Int) (h0:0 <= i) (h5:i < 5):Sp prog n_word_fits [.agg c.C.toArray,.int .i64 i,.int .i64 k,.int .i64 e] aC [] (fun r=>pa_ (r = Word.fits c i k e) []):=by
 intro h st
 refine sim_word_fits _ _ _ _ ?_
 unfold sh_word_fits
 refine aY (fun k0=>?_) (fun k0=>?_)
 ·have e0:k = 0:=by simpa using k0
  subst e0
  exact uJ (rv c i 8) st fun r h' hr s=>aZ (by rw [hr]; rfl) s
 refine aY (fun k1=>?_) (fun k1=>?_)
 ·have e0:k = 1:=by simpa using k1
  subst e0
  exact uJ (rv c i 8) st fun r h' hr s=>aZ (by rw [hr]; rfl) s
 refine aY (fun k2=>?_) (fun k2=>?_)
 ·have e0:k = 2:=by simpa using k2
  subst e0
  exact uJ (rv c i 16) st fun r h' hr s=>aZ (by rw [hr]; rfl) s
 refine aY (fun k3=>?_) (fun k3=>?_)
 ·have e0:k = 3:=by simpa using k3
  subst e0
  exact uJ (rv c i e) st fun r h' hr s=>aZ (by rw [hr]; rfl) s
 refine aY (fun k4=>⟨⟨h0,h5⟩,?_⟩) (fun k4=>?_)
 ·have e0:k = 4:=by simpa using k4
  subst e0
  exact aZ rfl st
 refine aY (fun k5=>⟨⟨h0,h5⟩,?_⟩) (fun k5=>?_)
 ·have e0:k = 5:=by simpa using k5
  subst e0
  exact aZ rfl st
 refine aZ ?_ st
 simp at k0 k1 k2 k3 k4 k5
 simp [Word.fits,k0,k1,k2,k3,k4,k5]
theorem checks_drop (c:dp) (e:Int) (ks:List Int) (n:Nat) (h:n < ks.length):Word.checks c e (ks.drop n) ((n:Int) + 1) = if Word.fits c ((n:Int) + 1) ks[n] e = true then Word.checks c e (ks.drop (n + 1)) (((n + 1:Nat):Int) + 1) else 2:=by
 rw [List.drop_eq_getElem_cons h,Word.checks]; rfl
theorem jH (c:dp) (e:Int):Sp prog ie [.agg c.C.toArray,.int .i64 e] bj [] (fun r=>pa_ (r = Word.check c e) []):=by
 intro h st
 refine sim_word_Check _ _ ?_
 unfold sh_word_Check
 refine aY (fun k=>?_) (fun k=>?_)
 ·exact aZ (by unfold Word.check; rw [if_pos (by simpa using k)]) st
 ·have hc:Word.check c e = Word.checks c e (Word.kinds (az c).1) 1:=by unfold Word.check; rw [if_neg (by simpa using k)]
  rw [hc]
  refine mY (sp_word_kinds _) st fun r h1 s1=>?_
  have hl:=(cc (j:=0) s1 rfl).1
  have h4:=Word.kinds_len (az c).1
  refine Lp.intro (fun (i:Int) h=>∃ n:Nat,i = n/\n <= (Word.kinds (az c).1).length/\Word.checks c e ((Word.kinds (az c).1).drop n) ((n:Int) + 1) = Word.checks c e (Word.kinds (az c).1) 1/\aB [vI r (Word.kinds (az c).1)] h) (fun (i:Int) _=>(Word.kinds (az c).1).length - i.toNat) ⟨0,rfl,Nat.zero_le _,rfl,s1⟩ ?_
  rintro i h ⟨n,rfl,hn,he,s2⟩
  unfold vV
  refine aY (fun k2=>?_) (fun k2=>?_)
  ·have hlt:n < (Word.kinds (az c).1).length:=by rw [hl] at k2; simpa using k2
   have hw:i64.wrap ((n:Int) + 1) = ((n + 1:Nat):Int):=by rw [bm (by omega) (by omega)]; rfl
   rw [checks_drop c e _ n hlt] at he
   refine cZ s2 (j:=0) rfl (by omega) (by omega) fun q hq=>?_
   refine dz (j:=0) (i:=n) (k:=0) (Word.kinds (az c).1)[n] (ct _) s2 rfl hq (by simp) (aE hlt) (by simp) ?_
   rw [hw]
   refine uJ (sp_word_fits c ((n + 1:Nat):Int) _ e (by omega) (by omega)) s2 fun r2 h3 hr s3=>?_
   subst hr
   refine aY (fun k3=>?_) (fun k3=>?_)
   ·have k3':¬ Word.fits c ((n:Int) + 1) (Word.kinds (az c).1)[n] e = true:=by simpa using k3
    rw [if_neg k3'] at he
    exact aZ he trivial
   ·have k3':Word.fits c ((n:Int) + 1) (Word.kinds (az c).1)[n] e = true:=by simpa using k3
    rw [if_pos k3'] at he
    exact ⟨⟨n + 1,rfl,hlt,he,s3⟩,by simp; omega⟩
  ·have:n = (Word.kinds (az c).1).length:=by rw [hl] at k2; simp at k2; omega
   subst this
   rw [List.drop_length] at he
   exact aZ he trivial
theorem sp_word_Args (k:Int):Sp prog n_word_Args [.int .i64 k] eF [] (fun r=>pa_ (r = (Word.kinds k).length) []):=by
 intro h st
 refine sim_word_Args _ ?_
 unfold sh_word_Args
 refine mY (sp_word_kinds k) st fun r h1 s1=>?_
 have hl:=(cc (j:=0) s1 rfl).1
 exact aZ (by rw [hl]) trivial
end
section
open Go Mb
structure PK where
 s:aF
 m:List (List Int)
 tabs:List (List Pte)
 pool:List Int
 caps:fAa.T
abbrev fe:=ad
abbrev fQ:=aF
namespace PK
def off (k:PK) (e:Int):Bool:=decide (e < 0) || decide (e >= k.s.fJa)
def tab (k:PK) (e:Int):List Pte:=k.tabs.getD e.toNat []
def pte (k:PK) (e p:Int):Pte × Bool:=if off k e = true then (dn,false) else Table.get (tab k e) p
def touch (k:PK) (f:Int) (c:dp):(fe × Bool) × PK :=
 if (Word.arg c 2 16).2 = false\/bJ (az c).1 = false then ((⟨0,0⟩,false),k)
 else if (az c).1 = 20 then ((⟨0,(Mem.load k.m f (Word.arg c 2 16).1).1⟩,(Mem.load k.m f (Word.arg c 2 16).1).2),k)
 else if (az c).1 = 21 then ((⟨0,0⟩,(Mem.store k.m f (Word.arg c 2 16).1 c.e3).1),{ k with m:=(Mem.store k.m f (Word.arg c 2 16).1 c.e3).2 })
 else if (az c).1 = 22 then ((⟨0,(Mem.cas k.m f (Word.arg c 2 16).1 c.e3 c.e4).1.1⟩,(Mem.cas k.m f (Word.arg c 2 16).1 c.e3 c.e4).1.2),{ k with m:=(Mem.cas k.m f (Word.arg c 2 16).1 c.e3 c.e4).2 })
 else ((⟨0,(Mem.add k.m f (Word.arg c 2 16).1 c.e3).1.1⟩,(Mem.add k.m f (Word.arg c 2 16).1 c.e3).1.2),{ k with m:=(Mem.add k.m f (Word.arg c 2 16).1 c.e3).2 })
def alloc (k:PK) (e s:Int):Int × PK :=
 if (fAa.at_ k.caps e s).2 = true then (4,k) else if (Pool.take k.pool).2.1 = false then (6,k)
 else ((fAa.root k.caps e s (Pool.take k.pool).1).1,{ k with pool:=(Pool.take k.pool).2.2,m:=(Mem.zero k.m (Pool.take k.pool).1).2,caps:=(fAa.root k.caps e s (Pool.take k.pool).1).2 })
def derive (k:PK) (e src to dst r:Int):Int × PK :=
 if (fAa.derive k.caps e src to dst r).1 ≠ 0 then ((fAa.derive k.caps e src to dst r).1,k)
 else if (Pool.hold k.pool (fAa.at_ (fAa.derive k.caps e src to dst r).2 to dst).1.fEa).1 = false then (6,{ k with caps:=(fAa.drop (fAa.derive k.caps e src to dst r).2 to dst).2 })
 else (0,{ k with caps:=(fAa.derive k.caps e src to dst r).2,pool:=(Pool.hold k.pool (fAa.at_ (fAa.derive k.caps e src to dst r).2 to dst).1.fEa).2 })
def unmaps (ps:List Pte):List Int->List Pte
 | []=>ps
 | i::l=>unmaps (Table.remove ps i).2 l
def unmap (ps:List Pte) (s:Int):List Pte:=unmaps ps (Table.by_ ps s)
def gone (k:PK) (f:Int):List bZ->PK
 | []=>k
 | p::l=>gone { k with tabs:=k.tabs.set p.fCa.toNat (unmap (tab k p.fCa) p.fDa),pool:=(Pool.lets k.pool f).2.2 } f l
def revoke (k:PK) (e s:Int) (w:Bool):fe × PK :=
 if (fAa.revoke k.caps e s).1.2 ≠ 0 then (⟨(fAa.revoke k.caps e s).1.2,0⟩,k)
 else if w = true then (⟨0,u64.wrap ((fAa.revoke k.caps e s).1.1++(fAa.drop (fAa.revoke k.caps e s).2 e s).1.1).length⟩,
  gone { k with caps:=(fAa.drop (fAa.revoke k.caps e s).2 e s).2 } (fAa.at_ k.caps e s).1.fEa ((fAa.revoke k.caps e s).1.1++(fAa.drop (fAa.revoke k.caps e s).2 e s).1.1))
 else (⟨0,u64.wrap (fAa.revoke k.caps e s).1.1.length⟩,gone { k with caps:=(fAa.revoke k.caps e s).2 } (fAa.at_ k.caps e s).1.fEa (fAa.revoke k.caps e s).1.1)
def maps (k:PK) (e pg s r:Int):Int × PK :=
 if (fAa.at_ k.caps e s).2 = false then (3,k) else if (Table.get (tab k e) pg).2 = true then (4,k) else if aP r (fAa.at_ k.caps e s).1.fBa = false then (5,k)
 else ((Table.insert (tab k e) pg ⟨(fAa.at_ k.caps e s).1.fEa,s,r⟩).1,{ k with tabs:=k.tabs.set e.toNat (Table.insert (tab k e) pg ⟨(fAa.at_ k.caps e s).1.fEa,s,r⟩).2 })
def protect (k:PK) (e pg r:Int):Int × PK :=
 if (Table.get (tab k e) pg).2 = false then (3,k) else if aP r (fAa.at_ k.caps e (Table.get (tab k e) pg).1.fDa).1.fBa = false then (5,k)
 else ((Table.protect (tab k e) pg r).1,{ k with tabs:=k.tabs.set e.toNat (Table.protect (tab k e) pg r).2 })
def remove (k:PK) (e pg:Int):Int × PK:=((Table.remove (tab k e) pg).1.2,{ k with tabs:=k.tabs.set e.toNat (Table.remove (tab k e) pg).2 })
def sleep (k:PK) (e:Int) (c:dp):fe × Bool :=
 if (fAa.at_ k.caps e (i64.wrap c.e1)).2 = false then (⟨3,0⟩,true) else if aP 1 (fAa.at_ k.caps e (i64.wrap c.e1)).1.fBa = false then (⟨5,0⟩,true)
 else if nJ (i64.wrap c.e3) (Mem.load k.m (fAa.at_ k.caps e (i64.wrap c.e1)).1.fEa (i64.wrap c.e2)).1 c.e4 = false then (⟨0,0⟩,false)
 else (⟨0,(Mem.load k.m (fAa.at_ k.caps e (i64.wrap c.e1)).1.fEa (i64.wrap c.e2)).1⟩,true)
def user (k:PK) (e:Int) (c:dp):fe × PK :=
 if (Table.get (tab k e) (i64.wrap c.e1)).2 = false\/cz (Table.get (tab k e) (i64.wrap c.e1)).1.fBa (i64.wrap c.e0) = false then (⟨7,0⟩,k)
 else ((touch k (Table.get (tab k e) (i64.wrap c.e1)).1.fEa c).1.1,(touch k (Table.get (tab k e) (i64.wrap c.e1)).1.fEa c).2)
def errs (r:Int × PK):(fe × Bool) × PK:=((⟨r.1,0⟩,true),r.2)
def does (k:PK) (e:Int) (c:dp):(fe × Bool) × PK :=
 if i64.wrap c.e0 = 1 then errs (alloc k e (i64.wrap c.e1))
 else if i64.wrap c.e0 = 2 then errs (derive k e (i64.wrap c.e1) e (i64.wrap c.e2) (i64.wrap c.e3))
 else if i64.wrap c.e0 = 3 then errs (derive k e (i64.wrap c.e1) (i64.wrap c.e2) (i64.wrap c.e3) (i64.wrap c.e4))
 else if i64.wrap c.e0 = 5 then (((revoke k e (i64.wrap c.e1) true).1,true),(revoke k e (i64.wrap c.e1) true).2)
 else if i64.wrap c.e0 = 4 then (((revoke k e (i64.wrap c.e1) false).1,true),(revoke k e (i64.wrap c.e1) false).2)
 else if i64.wrap c.e0 = 6 then errs (maps k e (i64.wrap c.e1) (i64.wrap c.e2) (i64.wrap c.e3))
 else if i64.wrap c.e0 = 7 then errs (remove k e (i64.wrap c.e1))
 else if i64.wrap c.e0 = 8 then errs (protect k e (i64.wrap c.e1) (i64.wrap c.e2))
 else if i64.wrap c.e0 = 9 then (sleep k e c,k)
 else if i64.wrap c.e0 = 10 then ((⟨0,0⟩,true),k)
 else (((user k e c).1,true),(user k e c).2)
def do_ (k:PK) (e:Int) (c:dp):(fe × Bool) × PK :=
 if off k e = true then ((⟨10,0⟩,true),k) else if Word.check c k.s.fJa ≠ 0 then ((⟨Word.check c k.s.fJa,0⟩,true),k) else does k e c
def new (s:fQ):PK:=⟨s,replicate s.fXa.toNat (replicate 16 0),replicate s.fJa.toNat (replicate 8 dn),replicate s.fXa.toNat 0,replicate s.fJa.toNat (replicate 8 mw)⟩
def sized (s:fQ):Bool:=!(decide (s.fSa < 1) || decide (s.fSa > 8) || decide (s.fJa < 1) || decide (s.fJa > 4) || decide (s.fXa < 1) || decide (s.fXa > 16))
end PK
def PteFine (p:Pte):Prop:=p = dn\/(0 <= p.fEa/\p.fEa < 16/\0 <= p.fDa/\p.fDa < 8/\ci p.fBa = true)
def CapFine (n:Int) (t:fAa.T) (c:Cap):Prop :=
 c = mw\/(c.fBa = 3/\c.fCa = -1/\c.fDa = 0/\0 <= c.fEa/\c.fEa < n) \/
 (0 <= c.fCa/\0 <= c.fEa/\c.fEa < n/\aP c.fBa (fAa.get t c.fCa c.fDa).fBa = true/\(fAa.get t c.fCa c.fDa).fEa = c.fEa)
def eO (n:Int) (t:fAa.T):Prop:=∀ e s,fAa.has t e s = true->CapFine n t (fAa.get t e s)
structure PK.Ok (k:PK):Prop where
 sz:PK.sized k.s = true
 ml:(k.m.length:Int) = k.s.fXa
 mr:∀ r ∈ k.m,r.length = 16
 tl:(k.tabs.length:Int) = k.s.fJa
 tr:∀ ps ∈ k.tabs,ps.length = 8/\∀ p ∈ ps,PteFine p
 pl:(k.pool.length:Int) = k.s.fXa
 pr:∀ n ∈ k.pool,0 <= n/\n <= 7
 cl:(k.caps.length:Int) = k.s.fJa
 tree:fAa.Ok k.caps
 fine:eO k.s.fXa k.caps
theorem gb {s:fQ}:PK.sized s = true↔1 <= s.fSa/\s.fSa <= 8/\1 <= s.fJa/\s.fJa <= 4/\1 <= s.fXa/\s.fXa <= 16:=by
 unfold PK.sized; simp; omega
theorem vH {r:Int}:ci r = true↔1 <= r/\r <= 3:=by unfold ci; simp
theorem dr {a b:Int} (h:aP a b = true):(1 <= a/\a <= 3)/\(1 <= b/\b <= 3):=by
 unfold aP at h; simp only [Bool.and_eq_true,vH] at h; exact h.1
theorem wrapR {n:Int} (h0:-2^63 <= n) (h1:n < 2^63):i64.wrap n = n:=bm h0 h1
theorem ok_new {s:fQ} (h:PK.sized s = true):PK.Ok (PK.new s):=by
 have hs:=gb.1 h
 refine ⟨h,by simp [PK.new]; omega,?_,by simp [PK.new]; omega,?_,by simp [PK.new]; omega,?_,by simp [PK.new]; omega,fAa.ok_new _ (by omega),?_⟩
 ·intro r hr; rw [(mem_replicate.1 hr).2]; rfl
 ·intro r hr; rw [(mem_replicate.1 hr).2]
  exact ⟨rfl,fun p hp=>.inl (mem_replicate.1 hp).2⟩
 ·intro r hr; rw [(mem_replicate.1 hr).2]; omega
 ·intro e i hh
  obtain ⟨a,b,rfl,rfl,ha,hb⟩:=fAa.has_nat hh
  simp only [PK.new,List.length_replicate] at ha
  left
  simp only [fAa.get,PK.new,Int.toNat_natCast,getD_eq_getElem?_getD,List.getElem?_replicate,if_pos ha,Option.getD_some,if_pos hb]
def qy (ps:List Pte):Prop:=ps.length = 8/\∀ p ∈ ps,PteFine p
theorem tab_set {ps:List Pte} (h:qy ps) (n:Nat) {p:Pte} (hp:PteFine p):qy (ps.set n p) :=
 ⟨by simpa using h.1,fun q hq=>by
  rcases mem_or_eq_of_mem_set hq with h1 | h1
  ·exact h.2 q h1
  ·subst h1; exact hp⟩
theorem tab_at {ps:List Pte} (h:qy ps) (i:Int):PteFine (Table.at_ ps i):=by
 unfold Table.at_
 by_cases hi:i.toNat < ps.length
 ·simp [hi]; exact h.2 _ (getElem_mem hi)
 ·simp [getD_eq_getElem?_getD,List.getElem?_eq_none (Nat.le_of_not_lt hi)]; exact .inl rfl
theorem put_fine {p:Pte} (h:(fq p).2 = true) (h0:p.fBa ≠ 0):PteFine p:=by
 unfold fq at h
 cases hq:an.eqb p ⟨0,0,0⟩ with
 | true =>
  exfalso; apply h0
  unfold an.eqb at hq
  simp at hq; exact hq.2.2
 | false =>
  rw [hq] at h
  simp only [cond_false] at h
  cases hb:(((((decide (p.fEa < 0)) || (decide (p.fEa >= 16))) || (decide (p.fDa < 0))) || (decide (p.fDa >= 8))) || (!(ci p.fBa))) with
  | true=>rw [hb] at h; simp at h
  | false =>
   simp at hb
   obtain ⟨⟨⟨⟨h1,h2⟩,h3⟩,h4⟩,h5⟩:=hb
   exact .inr ⟨h1,h2,h3,h4,h5⟩
theorem tab_insert {ps:List Pte} (h:qy ps) (i:Int) (p:Pte):qy (Table.insert ps i p).2:=by
 unfold Table.insert
 split
 ·exact h
 ·split
  ·exact h
  ·rename_i h1 _
   simp at h1
   exact tab_set h _ (put_fine h1.1 h1.2.1)
theorem tab_remove {ps:List Pte} (h:qy ps) (i:Int):qy (Table.remove ps i).2:=by
 unfold Table.remove
 split
 ·exact h
 ·split
  ·exact h
  ·exact tab_set h _ (.inl rfl)
theorem tab_protect {ps:List Pte} (h:qy ps) (i r:Int):qy (Table.protect ps i r).2:=by
 unfold Table.protect
 split
 ·exact h
 ·split
  ·exact h
  ·rename_i h1 h2
   simp at h1
   refine tab_set h _ (.inr ?_)
   rcases tab_at h i with e | e
   ·rw [e] at h2; exact absurd rfl h2
   ·exact ⟨e.1,e.2.1,e.2.2.1,e.2.2.2.1,h1.2⟩
theorem tab_unmaps:∀ (l:List Int) {ps:List Pte},qy ps->qy (PK.unmaps ps l)
 | [],_,h=>h
 | i::l,_,h=>tab_unmaps l (tab_remove h i)
theorem tab_of {k:PK} (ok:PK.Ok k) {n:Nat} (h:n < k.tabs.length):PK.tab k n = k.tabs[n]/\qy k.tabs[n]:=by
 refine ⟨by simp [PK.tab,h],ok.tr _ (getElem_mem h)⟩
theorem tab_ok {k:PK} (ok:PK.Ok k) (e:Int) (h:e.toNat < k.tabs.length):qy (PK.tab k e):=by
 have:PK.tab k e = k.tabs[e.toNat]:=by simp [PK.tab,h]
 rw [this]; exact ok.tr _ (getElem_mem h)
theorem tabs_set {k:PK} (ok:PK.Ok k) (e:Int) {ps:List Pte} (h:e.toNat < k.tabs.length->qy ps):∀ qs ∈ k.tabs.set e.toNat ps,qy qs:=by
 intro qs hq
 by_cases he:e.toNat < k.tabs.length
 ·rcases mem_or_eq_of_mem_set hq with h1 | h1
  ·exact ok.tr _ h1
  ·subst h1; exact h he
 ·rw [List.set_eq_of_length_le (by omega)] at hq; exact ok.tr _ hq
theorem ok_tabs {k:PK} (ok:PK.Ok k) (e:Int) {ps:List Pte} (h:e.toNat < k.tabs.length->qy ps):PK.Ok { k with tabs:=k.tabs.set e.toNat ps } :=
 ⟨ok.sz,ok.ml,ok.mr,by simpa using ok.tl,tabs_set ok e h,ok.pl,ok.pr,ok.cl,ok.tree,ok.fine⟩
theorem pool_set {p:List Int} (h:∀ n ∈ p,0 <= n/\n <= 7) (i:Nat) {v:Int} (hv:0 <= v/\v <= 7):∀ n ∈ p.set i v,0 <= n/\n <= 7:=by
 intro n hn
 rcases mem_or_eq_of_mem_set hn with h1 | h1
 ·exact h n h1
 ·subst h1; exact hv
theorem refs_fine {p:List Int} (h:∀ n ∈ p,0 <= n/\n <= 7) (i:Int):0 <= Pool.refs p i/\Pool.refs p i <= 7:=by
 unfold Pool.refs
 split
 ·omega
 ·by_cases hi:i.toNat < p.length
  ·simp [hi]; exact h _ (getElem_mem hi)
  ·simp [getD_eq_getElem?_getD,List.getElem?_eq_none (Nat.le_of_not_lt hi)]
theorem lets_fine {p:List Int} (h:∀ n ∈ p,0 <= n/\n <= 7) (i:Int):(Pool.lets p i).2.2.length = p.length/\∀ n ∈ (Pool.lets p i).2.2,0 <= n/\n <= 7:=by
 have hr:=refs_fine h i
 unfold Pool.lets
 split
 ·exact ⟨rfl,h⟩
 ·refine ⟨by simp,pool_set h _ ?_⟩
  rw [wrapR (by omega) (by omega)]; omega
theorem hold_fine {p:List Int} (h:∀ n ∈ p,0 <= n/\n <= 7) (i:Int):(Pool.hold p i).2.length = p.length/\∀ n ∈ (Pool.hold p i).2,0 <= n/\n <= 7:=by
 have hr:=refs_fine h i
 unfold Pool.hold
 split
 ·exact ⟨rfl,h⟩
 ·refine ⟨by simp,pool_set h _ ?_⟩
  rw [wrapR (by omega) (by omega)]; omega
theorem take_fine {p:List Int} (h:∀ n ∈ p,0 <= n/\n <= 7):(Pool.take p).2.2.length = p.length/\∀ n ∈ (Pool.take p).2.2,0 <= n/\n <= 7:=by
 unfold Pool.take
 split
 ·exact ⟨rfl,h⟩
 ·exact ⟨by simp,pool_set h _ (by omega)⟩
theorem take_in {p:List Int} (h:(Pool.take p).2.1 = true):0 <= (Pool.take p).1/\(Pool.take p).1 < p.length:=by
 unfold Pool.take at h ⊢
 split at h
 ·cases h
 ·rename_i h1
  rw [if_neg h1]
  rcases idx_lt 0 p 0 with e | ⟨n,h2,e⟩
  ·omega
  ·simp only; omega
namespace fAa
theorem cf_root {n:Int} {t:T} {f:Int} (h0:0 <= f) (h1:f < n):CapFine n t ⟨f,3,-1,0⟩:=.inr (.inl ⟨rfl,rfl,rfl,h0,h1⟩)
theorem parent_has {t:T} (ok:Ok t) {e s:Int} (h:has t e s = true) (h1:(get t e s).fBa ≠ 0) (h2:0 <= (get t e s).fCa):has t (get t e s).fCa (get t e s).fDa = true/\(get t (get t e s).fCa (get t e s).fDa).fBa ≠ 0:=by
 obtain ⟨rank,hr⟩:=ok.rk
 exact ⟨(hr e s h h1 h2).1,(hr e s h h1 h2).2.1⟩
theorem fine_put {n:Int} {t:T} (ok:Ok t) (F:eO n t) {e s:Int} (h:has t e s = true) (h0:(get t e s).fBa = 0) {c:Cap} (hc:CapFine n t c) (hc2:0 <= c.fCa->has t c.fCa c.fDa = true/\(get t c.fCa c.fDa).fBa ≠ 0):eO n (put t e s c):=by
 intro a b hab
 rw [put_has] at hab
 have keep:∀ {i j:Int},has t i j = true->(get t i j).fBa ≠ 0->get (put t e s c) i j = get t i j:=by
  intro i j hij hn
  rw [get_put ok.row h hij,if_neg]
  rintro ⟨rfl,rfl⟩; exact hn h0
 rw [get_put ok.row h hab]
 split
 ·rcases hc with e1 | e1 | e1
  ·exact .inl e1
  ·exact .inr (.inl e1)
  ·obtain ⟨p1,p2⟩:=hc2 e1.1
   exact .inr (.inr ⟨e1.1,e1.2.1,e1.2.2.1,by rw [keep p1 p2]; exact e1.2.2.2.1,by rw [keep p1 p2]; exact e1.2.2.2.2⟩)
 ·rcases F a b hab with e1 | e1 | e1
  ·exact .inl e1
  ·exact .inr (.inl e1)
  ·have hm:=(dr e1.2.2.2.1).1
   obtain ⟨p1,p2⟩:=parent_has ok hab (by omega) e1.1
   exact .inr (.inr ⟨e1.1,e1.2.1,e1.2.2.1,by rw [keep p1 p2]; exact e1.2.2.2.1,by rw [keep p1 p2]; exact e1.2.2.2.2⟩)
theorem fine_empties {n:Int} {t:T} (ok:Ok t) (F:eO n t) {l:List bZ} (hl:∀ p ∈ l,has t p.fCa p.fDa = true)
  (cl:∀ e s,has t e s = true->(get t e s).fBa ≠ 0->0 <= (get t e s).fCa->(⟨(get t e s).fCa,(get t e s).fDa⟩:bZ) ∈ l->(⟨e,s⟩:bZ) ∈ l):eO n (fVa t l):=by
 intro a b hab
 rw [empties_has] at hab
 rw [jB l t ok.row hl a b hab]
 split
 ·exact .inl rfl
 ·rename_i hm
  rcases F a b hab with e1 | e1 | e1
  ·exact .inl e1
  ·exact .inr (.inl e1)
  ·have hmy:=(dr e1.2.2.2.1).1
   obtain ⟨p1,p2⟩:=parent_has ok hab (by omega) e1.1
   have hp:(⟨(get t a b).fCa,(get t a b).fDa⟩:bZ) ∉ l:=fun h=>hm (cl a b hab (by omega) e1.1 h)
   have hg:=jB l t ok.row hl _ _ p1
   rw [if_neg hp] at hg
   exact .inr (.inr ⟨e1.1,e1.2.1,e1.2.2.1,by rw [hg]; exact e1.2.2.2.1,by rw [hg]; exact e1.2.2.2.2⟩)
theorem below_closed {t:T} (ok:Ok t) (e s:Int):∀ a b,has t a b = true->(get t a b).fBa ≠ 0->0 <= (get t a b).fCa->(⟨(get t a b).fCa,(get t a b).fDa⟩:bZ) ∈ below t e s->(⟨a,b⟩:bZ) ∈ below t e s:=by
 intro a b hab hne hen hp
 have h1:=(mem_below ok).1 hp
 refine (mem_below ok).2 ⟨hab,hne,?_⟩
 rw [under_step ok hab,if_pos ⟨hne,hen⟩]
 split
 ·rfl
 ·exact h1.2.2
theorem own_closed {t:T} (ok:Ok t) (e s:Int):∀ a b,has t a b = true->(get t a b).fBa ≠ 0->0 <= (get t a b).fCa->(⟨(get t a b).fCa,(get t a b).fDa⟩:bZ) ∈ own t e s->(⟨a,b⟩:bZ) ∈ own t e s:=by
 intro a b hab hne hen hp
 have h1:=(mem_own ok).1 hp
 refine (mem_own ok).2 ⟨hab,hne,.inr ?_⟩
 rw [under_step ok hab,if_pos ⟨hne,hen⟩]
 split
 ·rfl
 ·rename_i hno
  rcases h1.2.2 with h | h
  ·exact absurd ⟨congrArg aH.fCa h,congrArg aH.fDa h⟩ hno
  ·exact h
theorem fine_revoke {n:Int} {t:T} (ok:Ok t) (F:eO n t) (e s:Int):eO n (revoke t e s).2:=by
 unfold revoke; split
 ·exact F
 ·exact fine_empties ok F (fun p hp=>((mem_below ok).1 hp).1) (below_closed ok e s)
theorem fine_drop {n:Int} {t:T} (ok:Ok t) (F:eO n t) (e s:Int):eO n (drop t e s).2:=by
 unfold drop; split
 ·exact F
 ·exact fine_empties ok F (fun p hp=>((mem_own ok).1 hp).1) (own_closed ok e s)
theorem fine_rootc {n:Int} {t:T} (ok:Ok t) (F:eO n t) (e s:Int) {f:Int} (h1:f < n) (h0:0 <= f):eO n (root t e s f).2:=by
 unfold root; split
 ·exact F
 ·split
  ·exact F
  ·rename_i c1 c2
   simp at c1
   exact fine_put ok F c1.1 (by simpa using c2) (cf_root h0 h1) (fun h=>absurd h (by show ¬ (0:Int) <= -1; omega))
theorem fine_derive {n:Int} {t:T} (ok:Ok t) (F:eO n t) (e src to dst r:Int):eO n (derive t e src to dst r).2:=by
 unfold derive
 split
 ·exact F
 ·split
  ·exact F
  ·split
   ·exact F
   ·split
    ·exact F
    ·rename_i h1 h2 h3 h4
     simp at h1
     have hw:aP r (get t e src).fBa = true:=by simpa using h4
     have hf:0 <= (get t e src).fEa/\(get t e src).fEa < n:=by
      rcases F e src h1.1 with e1 | e1 | e1
      ·rw [e1] at h2; exact absurd rfl h2
      ·exact ⟨e1.2.2.2.1,e1.2.2.2.2⟩
      ·exact ⟨e1.2.1,e1.2.2.1⟩
     have h0:0 <= e:=by
      obtain ⟨a,b,rfl,_,_,_⟩:=has_nat h1.1
      omega
     exact fine_put ok F h1.2.1 (by simpa using h3) (.inr (.inr ⟨h0,hf.1,hf.2,hw,rfl⟩)) (fun _=>⟨h1.1,h2⟩)
theorem root_len (t:T) (e s f:Int):(root t e s f).2.length = t.length:=by
 unfold root; split
 ·rfl
 ·split
  ·rfl
  ·exact put_len _ _ _ _
theorem derive_len (t:T) (e src to dst r:Int):(derive t e src to dst r).2.length = t.length:=by
 unfold derive; repeat' split
 all_goals first | rfl | exact put_len _ _ _ _
theorem revoke_len (t:T) (e s:Int):(revoke t e s).2.length = t.length:=by
 unfold revoke; split
 ·rfl
 ·exact empties_len _ _
theorem drop_len (t:T) (e s:Int):(drop t e s).2.length = t.length:=by
 unfold drop; split
 ·rfl
 ·exact empties_len _ _
end fAa
theorem put_row16 {m:List (List Int)} (h:∀ r ∈ m,r.length = 16) (i:Nat) {r:List Int} (hr:i < m.length->r.length = 16):∀ q ∈ m.set i r,q.length = 16:=by
 intro q hq
 by_cases hi:i < m.length
 ·rcases mem_or_eq_of_mem_set hq with h1 | h1
  ·exact h q h1
  ·subst h1; exact hr hi
 ·rw [List.set_eq_of_length_le (by omega)] at hq; exact h q hq
theorem mput {m:List (List Int)} (h:∀ r ∈ m,r.length = 16) (f a v:Int):(Mem.put m f a v).length = m.length/\∀ r ∈ Mem.put m f a v,r.length = 16:=by
 refine ⟨by simp [Mem.put],put_row16 h _ fun hi=>?_⟩
 simp [hi]; exact h _ (getElem_mem hi)
theorem mstore {m:List (List Int)} (h:∀ r ∈ m,r.length = 16) (f a v:Int):(Mem.store m f a v).2.length = m.length/\∀ r ∈ (Mem.store m f a v).2,r.length = 16:=by
 unfold Mem.store; split
 ·exact mput h f a v
 ·exact ⟨rfl,h⟩
theorem mcas {m:List (List Int)} (h:∀ r ∈ m,r.length = 16) (f a o v:Int):(Mem.cas m f a o v).2.length = m.length/\∀ r ∈ (Mem.cas m f a o v).2,r.length = 16:=by
 unfold Mem.cas; split
 ·exact mstore h f a v
 ·exact ⟨rfl,h⟩
theorem madd {m:List (List Int)} (h:∀ r ∈ m,r.length = 16) (f a v:Int):(Mem.add m f a v).2.length = m.length/\∀ r ∈ (Mem.add m f a v).2,r.length = 16:=by
 unfold Mem.add
 exact mstore h f a _
theorem mzero {m:List (List Int)} (h:∀ r ∈ m,r.length = 16) (f:Int):(Mem.zero m f).2.length = m.length/\∀ r ∈ (Mem.zero m f).2,r.length = 16:=by
 unfold Mem.zero; split
 ·refine ⟨by simp,put_row16 h _ fun hi=>by simp⟩
 ·exact ⟨rfl,h⟩
theorem ok_mem {k:PK} (ok:PK.Ok k) {m:List (List Int)} (h:m.length = k.m.length/\∀ r ∈ m,r.length = 16):PK.Ok { k with m:=m } :=
 ⟨ok.sz,by rw [← ok.ml,← h.1],h.2,ok.tl,ok.tr,ok.pl,ok.pr,ok.cl,ok.tree,ok.fine⟩
theorem ok_touch {k:PK} (ok:PK.Ok k) (f:Int) (c:dp):PK.Ok (PK.touch k f c).2:=by
 unfold PK.touch
 split
 ·exact ok
 ·split
  ·exact ok
  ·split
   ·exact ok_mem ok (mstore ok.mr _ _ _)
   ·split
    ·exact ok_mem ok (mcas ok.mr _ _ _ _)
    ·exact ok_mem ok (madd ok.mr _ _ _)
theorem ok_alloc {k:PK} (ok:PK.Ok k) (e s:Int):PK.Ok (PK.alloc k e s).2:=by
 unfold PK.alloc
 split
 ·exact ok
 ·split
  ·exact ok
  ·rename_i h
   have ht:=take_in (by simpa using h)
   have h1:=take_fine ok.pr
   have h2:=mzero ok.mr (Pool.take k.pool).1
   refine ⟨ok.sz,by rw [← ok.ml,← h2.1],h2.2,ok.tl,ok.tr,by rw [← ok.pl,← h1.1],h1.2,by rw [← ok.cl]; simp only [fAa.root_len],fAa.ok_root ok.tree _ _ _,?_⟩
   exact fAa.fine_rootc ok.tree ok.fine _ _ (by rw [← ok.pl]; exact ht.2) ht.1
theorem ok_derive {k:PK} (ok:PK.Ok k) (e src to dst r:Int):PK.Ok (PK.derive k e src to dst r).2:=by
 have o1:=fAa.ok_derive ok.tree e src to dst r
 have f1:=fAa.fine_derive ok.tree ok.fine e src to dst r
 unfold PK.derive
 split
 ·exact ok
 ·split
  ·exact ⟨ok.sz,ok.ml,ok.mr,ok.tl,ok.tr,ok.pl,ok.pr,by rw [← ok.cl]; simp only [fAa.drop_len,fAa.derive_len],fAa.ok_drop o1 _ _,fAa.fine_drop o1 f1 _ _⟩
  ·have h1:=hold_fine ok.pr (fAa.at_ (fAa.derive k.caps e src to dst r).2 to dst).1.fEa
   exact ⟨ok.sz,ok.ml,ok.mr,ok.tl,ok.tr,by rw [← ok.pl,← h1.1],h1.2,by rw [← ok.cl]; simp only [fAa.derive_len],o1,f1⟩
theorem ok_gone:∀ (l:List bZ) {k:PK} (_:PK.Ok k) (f:Int),PK.Ok (PK.gone k f l)
 | [],_,ok,_=>ok
 | p::l,k,ok,f=>by
  have h1:=lets_fine ok.pr f
  have h2:=ok_tabs ok p.fCa (ps:=PK.unmap (PK.tab k p.fCa) p.fDa) (fun h=>tab_unmaps _ (tab_ok ok _ h))
  have h3:PK.Ok { k with tabs:=k.tabs.set p.fCa.toNat (PK.unmap (PK.tab k p.fCa) p.fDa),pool:=(Pool.lets k.pool f).2.2 } :=
   ⟨h2.sz,h2.ml,h2.mr,h2.tl,h2.tr,by rw [← ok.pl]; exact congrArg Int.ofNat h1.1,h1.2,h2.cl,h2.tree,h2.fine⟩
  exact ok_gone l h3 f
theorem ok_caps {k:PK} (ok:PK.Ok k) {t:fAa.T} (h:t.length = k.caps.length) (o:fAa.Ok t) (f:eO k.s.fXa t):PK.Ok { k with caps:=t } :=
 ⟨ok.sz,ok.ml,ok.mr,ok.tl,ok.tr,ok.pl,ok.pr,by rw [← ok.cl,← h],o,f⟩
theorem ok_revoke {k:PK} (ok:PK.Ok k) (e s:Int) (w:Bool):PK.Ok (PK.revoke k e s w).2:=by
 have o1:=fAa.ok_revoke ok.tree e s
 have f1:=fAa.fine_revoke ok.tree ok.fine e s
 unfold PK.revoke
 split
 ·exact ok
 ·split
  ·exact ok_gone _ (ok_caps ok (by rw [fAa.drop_len,fAa.revoke_len]) (fAa.ok_drop o1 _ _) (fAa.fine_drop o1 f1 _ _)) _
  ·exact ok_gone _ (ok_caps ok (by rw [fAa.revoke_len]) o1 f1) _
theorem ok_maps {k:PK} (ok:PK.Ok k) (e pg s r:Int):PK.Ok (PK.maps k e pg s r).2:=by
 unfold PK.maps
 repeat' split
 all_goals first | exact ok | exact ok_tabs ok e fun h=>tab_insert (tab_ok ok _ h) _ _
theorem ok_protect {k:PK} (ok:PK.Ok k) (e pg r:Int):PK.Ok (PK.protect k e pg r).2:=by
 unfold PK.protect
 repeat' split
 all_goals first | exact ok | exact ok_tabs ok e fun h=>tab_protect (tab_ok ok _ h) _ _
theorem ok_remove {k:PK} (ok:PK.Ok k) (e pg:Int):PK.Ok (PK.remove k e pg).2:=ok_tabs ok e fun h=>tab_remove (tab_ok ok _ h) _
theorem ok_user {k:PK} (ok:PK.Ok k) (e:Int) (c:dp):PK.Ok (PK.user k e c).2:=by
 unfold PK.user
 split
 ·exact ok
 ·exact ok_touch ok _ _
theorem ok_does {k:PK} (ok:PK.Ok k) (e:Int) (c:dp):PK.Ok (PK.does k e c).2:=by
 unfold PK.does PK.errs
 repeat' split
 all_goals first | exact ok | exact ok_alloc ok _ _ | exact ok_derive ok _ _ _ _ _ | exact ok_revoke ok _ _ _ | exact ok_maps ok _ _ _ _ | exact ok_remove ok _ _ | exact ok_protect ok _ _ _ | exact ok_user ok _ _
theorem ok_do {k:PK} (ok:PK.Ok k) (e:Int) (c:dp):PK.Ok (PK.do_ k e c).2:=by
 unfold PK.do_
 split
 ·exact ok
 ·split
  ·exact ok
  ·exact ok_does ok e c
end
section
open Go Mb
namespace fAa
theorem under_put {t:T} (ok:Ok t) {e s:Int} (h:has t e s = true) (h0:(get t e s).fBa = 0) {c:Cap} (hc:0 <= c.fCa->has t c.fCa c.fDa = true/\(get t c.fCa c.fDa).fBa ≠ 0) (p:bZ) :
  ∀ (n:Nat) (a b:Int),deep 40 t (get t a b) <= n->has t a b = true->(get t a b).fBa ≠ 0->under (put t e s c) (get t a b) p = under t (get t a b) p:=by
 have ok':=ok_put ok h h0 c hc
 intro n
 induction n with
 | zero =>
  intro a b hd hab hne
  have hk:get (put t e s c) a b = get t a b:=by rw [get_put ok.row h hab,if_neg]; rintro ⟨rfl,rfl⟩; exact hne h0
  have s1:=under_step ok' (by rw [put_has]; exact hab) (e:=a) (s:=b) p
  rw [hk] at s1
  rw [s1,under_step ok hab]
  by_cases hen:(get t a b).fBa ≠ 0/\0 <= (get t a b).fCa
  ·have:=deep_step ok hab hen; omega
  ·rw [if_neg hen,if_neg hen]
 | succ n ih =>
  intro a b hd hab hne
  have hk:get (put t e s c) a b = get t a b:=by rw [get_put ok.row h hab,if_neg]; rintro ⟨rfl,rfl⟩; exact hne h0
  have s1:=under_step ok' (by rw [put_has]; exact hab) (e:=a) (s:=b) p
  rw [hk] at s1
  rw [s1,under_step ok hab]
  by_cases hen:(get t a b).fBa ≠ 0/\0 <= (get t a b).fCa
  ·have hd2:=deep_step ok hab hen
   obtain ⟨p1,p2⟩:=parent_has ok hab hen.1 hen.2
   have hkp:get (put t e s c) (get t a b).fCa (get t a b).fDa = get t (get t a b).fCa (get t a b).fDa:=by
    rw [get_put ok.row h p1,if_neg]; rintro ⟨e1,e2⟩; rw [e1,e2] at p2; exact p2 h0
   rw [if_pos hen,if_pos hen,hkp,ih _ _ (by omega) p1 p2]
  ·rw [if_neg hen,if_neg hen]
theorem under_empties {t:T} (ok:Ok t) {l:List bZ} (hl:∀ p ∈ l,has t p.fCa p.fDa = true)
  (cl:∀ e s,has t e s = true->(get t e s).fBa ≠ 0->0 <= (get t e s).fCa->(⟨(get t e s).fCa,(get t e s).fDa⟩:bZ) ∈ l->(⟨e,s⟩:bZ) ∈ l) (p:bZ) :
  ∀ (n:Nat) (a b:Int),deep 40 t (get t a b) <= n->has t a b = true->(get t a b).fBa ≠ 0->(⟨a,b⟩:bZ) ∉ l->under (fVa t l) (get t a b) p = under t (get t a b) p:=by
 have ok':=ok_empties ok hl cl
 have hkeep:∀ a b,has t a b = true->(⟨a,b⟩:bZ) ∉ l->get (fVa t l) a b = get t a b:=fun a b hab hm=>by
  rw [jB l t ok.row hl a b hab,if_neg hm]
 intro n
 induction n with
 | zero =>
  intro a b hd hab hne hm
  have s1:=under_step ok' (by rw [empties_has]; exact hab) (e:=a) (s:=b) p
  rw [hkeep a b hab hm] at s1
  rw [s1,under_step ok hab]
  by_cases hen:(get t a b).fBa ≠ 0/\0 <= (get t a b).fCa
  ·have:=deep_step ok hab hen; omega
  ·rw [if_neg hen,if_neg hen]
 | succ n ih =>
  intro a b hd hab hne hm
  have s1:=under_step ok' (by rw [empties_has]; exact hab) (e:=a) (s:=b) p
  rw [hkeep a b hab hm] at s1
  rw [s1,under_step ok hab]
  by_cases hen:(get t a b).fBa ≠ 0/\0 <= (get t a b).fCa
  ·have hd2:=deep_step ok hab hen
   obtain ⟨p1,p2⟩:=parent_has ok hab hen.1 hen.2
   have hpm:(⟨(get t a b).fCa,(get t a b).fDa⟩:bZ) ∉ l:=fun h=>hm (cl a b hab hen.1 hen.2 h)
   rw [if_pos hen,if_pos hen,hkeep _ _ p1 hpm,ih _ _ (by omega) p1 p2 hpm]
  ·rw [if_neg hen,if_neg hen]
theorem under_self {t:T} (ok:Ok t):∀ (n:Nat) (a b:Int),deep 40 t (get t a b) <= n->has t a b = true->∀ p:bZ,under t (get t a b) p = true->has t p.fCa p.fDa = true->deep 40 t (get t p.fCa p.fDa) < deep 40 t (get t a b):=by
 intro n
 induction n with
 | zero =>
  intro a b hd hab p hu hp
  rw [under_step ok hab] at hu
  by_cases hen:(get t a b).fBa ≠ 0/\0 <= (get t a b).fCa
  ·have:=deep_step ok hab hen; omega
  ·rw [if_neg hen] at hu; cases hu
 | succ n ih =>
  intro a b hd hab p hu hp
  rw [under_step ok hab] at hu
  by_cases hen:(get t a b).fBa ≠ 0/\0 <= (get t a b).fCa
  ·have hd2:=deep_step ok hab hen
   rw [if_pos hen] at hu
   by_cases he:(get t a b).fCa = p.fCa/\(get t a b).fDa = p.fDa
   ·rw [← he.1,← he.2]; exact hd2
   ·rw [if_neg he] at hu
    obtain ⟨p1,p2⟩:=parent_has ok hab hen.1 hen.2
    have:=ih _ _ (by omega) p1 p hu hp
    omega
  ·rw [if_neg hen] at hu; cases hu
theorem not_under_self {t:T} (ok:Ok t) {a b:Int} (h:has t a b = true):under t (get t a b) ⟨a,b⟩ = false:=by
 cases hu:under t (get t a b) ⟨a,b⟩ with
 | false=>rfl
 | true=>exact absurd (under_self ok _ a b (Nat.le_refl _) h ⟨a,b⟩ hu h) (Nat.lt_irrefl _)
theorem under_frame {n:Int} {t:T} (ok:Ok t) (F:eO n t):∀ (m:Nat) (a b:Int),deep 40 t (get t a b) <= m->has t a b = true->∀ p:bZ,under t (get t a b) p = true->(get t a b).fEa = (get t p.fCa p.fDa).fEa:=by
 intro m
 induction m with
 | zero =>
  intro a b hd hab p hu
  rw [under_step ok hab] at hu
  by_cases hen:(get t a b).fBa ≠ 0/\0 <= (get t a b).fCa
  ·have:=deep_step ok hab hen; omega
  ·rw [if_neg hen] at hu; cases hu
 | succ m ih =>
  intro a b hd hab p hu
  rw [under_step ok hab] at hu
  by_cases hen:(get t a b).fBa ≠ 0/\0 <= (get t a b).fCa
  ·have hd2:=deep_step ok hab hen
   obtain ⟨p1,p2⟩:=parent_has ok hab hen.1 hen.2
   have hfr:(get t (get t a b).fCa (get t a b).fDa).fEa = (get t a b).fEa:=by
    rcases F a b hab with e1 | e1 | e1
    ·rw [e1] at hen; exact absurd rfl hen.1
    ·have:=hen.2; omega
    ·exact e1.2.2.2.2
   rw [if_pos hen] at hu
   by_cases he:(get t a b).fCa = p.fCa/\(get t a b).fDa = p.fDa
   ·rw [← he.1,← he.2,hfr]
   ·rw [if_neg he] at hu
    rw [← hfr]
    exact ih _ _ (by omega) p1 p hu
  ·rw [if_neg hen] at hu; cases hu
def isF (f:Int) (c:Cap):Bool:=decide (c.fBa ≠ 0) && decide (c.fEa = f)
def cnt (f:Int):T->Nat
 | []=>0
 | r::t=>r.countP (isF f) + cnt f t
def b2n (b:Bool):Nat:=if b then 1 else 0
theorem countP_set {α:Type} (P:α->Bool):∀ (l:List α) (i:Nat) (a:α) (h:i < l.length),(l.set i a).countP P + b2n (P l[i]) = l.countP P + b2n (P a)
 | [],i,_,h=>by simp at h
 | x::l,0,a,_=>by simp [b2n,countP_cons]; omega
 | x::l,i + 1,a,h=>by
  have:=countP_set P l i a (by simpa using h)
  simp only [set_cons_succ,countP_cons,List.getElem_cons_succ]
  omega
theorem cnt_set (f:Int):∀ (t:T) (i:Nat) (r:List Cap) (h:i < t.length),cnt f (t.set i r) + t[i].countP (isF f) = cnt f t + r.countP (isF f)
 | [],i,_,h=>by simp at h
 | x::t,0,r,_=>by simp [cnt]; omega
 | x::t,i + 1,r,h=>by
  have:=cnt_set f t i r (by simpa using h)
  simp only [set_cons_succ,cnt,List.getElem_cons_succ]
  omega
theorem cnt_put (f:Int) {t:T} (row:∀ r ∈ t,r.length = 8) {e s:Int} (h:has t e s = true) (c:Cap):cnt f (put t e s c) + b2n (isF f (get t e s)) = cnt f t + b2n (isF f c):=by
 obtain ⟨m,n,rfl,rfl,hm,hn⟩:=has_nat h
 obtain ⟨h3,hg⟩:=get_nat' row hm hn
 rw [put_nat hm,hg]
 have h1:=cnt_set f t m (t[m].set n c) hm
 have h2:=countP_set (isF f) t[m] n c h3
 omega
theorem cnt_empties (f:Int):∀ (l:List bZ) {t:T},(∀ r ∈ t,r.length = 8)->l.Nodup->(∀ p ∈ l,has t p.fCa p.fDa = true/\(get t p.fCa p.fDa).fBa ≠ 0) ->
  cnt f (fVa t l) + (l.countP fun p=>decide ((get t p.fCa p.fDa).fEa = f)) = cnt f t
 | [],_,_,_,_=>by simp [fVa]
 | p::l,t,row,nd,hl=>by
  obtain ⟨nd1,nd2⟩:=List.nodup_cons.1 nd
  obtain ⟨hp1,hp2⟩:=hl p (by simp)
  have row':=put_row row p.fCa p.fDa mw
  have hk:∀ q ∈ l,get (put t p.fCa p.fDa mw) q.fCa q.fDa = get t q.fCa q.fDa:=fun q hq=>by
   rw [get_put row hp1 (hl q (by simp [hq])).1,if_neg]
   rintro ⟨e1,e2⟩
   apply nd1
   have:q = p:=by cases p; cases q; simp_all
   exact this ▸ hq
  have ih:=cnt_empties f l row' nd2 (fun q hq=>by rw [put_has,hk q hq]; exact hl q (by simp [hq]))
  have h1:=cnt_put f row hp1 mw
  have h0:b2n (isF f mw) = 0:=rfl
  have h2:b2n (isF f (get t p.fCa p.fDa)) = if (get t p.fCa p.fDa).fEa = f then 1 else 0:=by
   unfold b2n isF
   by_cases hf:(get t p.fCa p.fDa).fEa = f <;> simp [hp2,hf]
  have h3:(l.countP fun q=>decide ((get (put t p.fCa p.fDa mw) q.fCa q.fDa).fEa = f)) = l.countP fun q=>decide ((get t q.fCa q.fDa).fEa = f):=by
   refine List.countP_congr fun q hq=>?_
   rw [hk q hq]
  rw [h3] at ih
  rw [fVa,countP_cons]
  simp only [decide_eq_true_eq]
  omega
theorem cnt_pos {f:Int} {t:T} (row:∀ r ∈ t,r.length = 8) {e s:Int} (h:has t e s = true) (hr:(get t e s).fBa ≠ 0) (hf:(get t e s).fEa = f):0 < cnt f t:=by
 have:=cnt_put f row h mw
 have h0:b2n (isF f mw) = 0:=rfl
 have h1:b2n (isF f (get t e s)) = 1:=by unfold b2n isF; simp [hr,hf]
 omega
theorem cnt_new (f:Int) (n:Nat):cnt f (replicate n (replicate 8 mw)) = 0:=by
 induction n with
 | zero=>rfl
 | succ n ih=>rw [List.replicate_succ,cnt,ih]; rfl
theorem rowOf_nodup (P:Int->Int->Cap->Bool) (e:Int):∀ (cs:List Cap) (s:Int),(rowOf P e cs s).Nodup
 | [],_=>.nil
 | c::cs,s=>by
  rw [rowOf_c]
  split
  ·refine List.nodup_cons.2 ⟨fun h=>?_,rowOf_nodup P e cs (s + 1)⟩
   obtain ⟨_,n,_,_,h2,_⟩:=mem_rowOf.1 h
   simp only at h2
   omega
  ·exact rowOf_nodup P e cs (s + 1)
theorem vR (P:Int->Int->Cap->Bool):∀ (t:T) (e:Int),(allOf P t e).Nodup
 | [],_=>.nil
 | r::t,e=>by
  rw [allOf,List.nodup_append]
  refine ⟨rowOf_nodup P e r 0,vR P t (e + 1),fun a ha b hb hab=>?_⟩
  subst hab
  obtain ⟨h1,_⟩:=mem_rowOf.1 ha
  obtain ⟨m,n,r',c,_,_,h2,_⟩:=mem_allOf.1 hb
  rw [h2] at h1
  simp only at h1
  omega
end fAa
end
section
open Go Mb
namespace Table
theorem get_snd (ps:List Pte) (i:Int):(get ps i).2 = decide ((get ps i).1.fBa ≠ 0):=by
 unfold get; split
 ·rename_i h; simp [h.2]
 ·rfl
theorem get_at {ps:List Pte} {i:Int} (h:bB i = true) (hr:(at_ ps i).fBa ≠ 0):get ps i = (at_ ps i,true):=by unfold get; rw [if_pos ⟨h,hr⟩]
theorem get_no {ps:List Pte} {i:Int} (h:¬ (bB i = true/\(at_ ps i).fBa ≠ 0)):get ps i = (dn,false):=by unfold get; rw [if_neg h]
theorem at_set {ps:List Pte} (hl:ps.length = 8) {i j:Int} (hi:bB i = true) (hj:bB j = true) (p:Pte):at_ (ps.set i.toNat p) j = if j = i then p else at_ ps j:=by
 obtain ⟨n,rfl,hn⟩:=nD hi
 obtain ⟨m,rfl,hm⟩:=nD hj
 simp only [at_,Int.toNat_natCast,getD_eq_getElem?_getD,List.getElem?_set]
 by_cases e:n = m
 ·subst e; simp [hl,hn]
 ·have:¬ ((m:Int) = n):=by omega
  rw [if_neg e,if_neg this]
theorem get_set {ps:List Pte} (hl:ps.length = 8) {i:Int} (hi:bB i = true) (p:Pte) (j:Int):get (ps.set i.toNat p) j = if j = i then (if p.fBa ≠ 0 then (p,true) else (dn,false)) else get ps j:=by
 by_cases hj:bB j = true
 ·unfold get
  rw [at_set hl hi hj]
  by_cases e:j = i
  ·subst e; simp only [if_true,hj,true_and]
  ·simp only [if_neg e]
 ·have e:j ≠ i:=fun e=>hj (e ▸ hi)
  rw [if_neg e,get_no (fun h=>hj h.1),get_no (fun h=>hj h.1)]
theorem get_insert {ps:List Pte} (hl:ps.length = 8) (i:Int) (p:Pte) (h0:(insert ps i p).1 = 0) (j:Int):get (insert ps i p).2 j = if j = i then (p,true) else get ps j:=by
 unfold insert at h0 ⊢
 by_cases h1:(fq p).2 = false\/p.fBa = 0\/bB i = false
 ·rw [if_pos h1] at h0; cases h0
 ·rw [if_neg h1] at h0 ⊢
  by_cases h2:(at_ ps i).fBa ≠ 0
  ·rw [if_pos h2] at h0; cases h0
  ·rw [if_neg h2]
   simp only [not_or,Bool.not_eq_false] at h1
   rw [get_set hl h1.2.2,if_pos h1.2.1]
theorem insert_same {ps:List Pte} (i:Int) (p:Pte) (h0:(insert ps i p).1 ≠ 0):(insert ps i p).2 = ps:=by
 unfold insert at h0 ⊢
 split
 ·rfl
 ·rename_i h1
  rw [if_neg h1] at h0
  split
  ·rfl
  ·rename_i h2; rw [if_neg h2] at h0; exact absurd rfl h0
theorem get_remove {ps:List Pte} (hl:ps.length = 8) (i j:Int):get (remove ps i).2 j = if j = i then (dn,false) else get ps j:=by
 unfold remove
 by_cases h1:bB i = false
 ·rw [if_pos h1]
  by_cases e:j = i
  ·subst e; rw [if_pos rfl,get_no (fun h=>by rw [h1] at h; exact Bool.false_ne_true h.1)]
  ·rw [if_neg e]
 ·rw [if_neg h1]
  have h1':bB i = true:=by simpa using h1
  by_cases h2:(at_ ps i).fBa = 0
  ·rw [if_pos h2]
   by_cases e:j = i
   ·subst e; rw [if_pos rfl,get_no (fun h=>h.2 h2)]
   ·rw [if_neg e]
  ·rw [if_neg h2,get_set hl h1']
   simp
theorem get_protect {ps:List Pte} (hl:ps.length = 8) (i r:Int) (j:Int) (h:(get ps i).2 = true) (hr:ci r = true):get (protect ps i r).2 j = if j = i then ({ (get ps i).1 with fBa:=r },true) else get ps j:=by
 have hi:bB i = true/\(at_ ps i).fBa ≠ 0:=by
  by_cases hh:bB i = true/\(at_ ps i).fBa ≠ 0
  ·exact hh
  ·rw [get_no hh] at h; cases h
 have hr0:r ≠ 0:=by have:=vH.1 hr; omega
 unfold protect
 rw [if_neg (by rw [hi.1,hr]; simp),if_neg hi.2,get_set hl hi.1,get_at hi.1 hi.2]
 simp [hr0]
theorem remove_len (ps:List Pte) (i:Int):(remove ps i).2.length = ps.length:=by unfold remove; split <;> (try split) <;> simp
theorem mem_byFrom {s x:Int}:∀ {ps:List Pte} {i:Int},x ∈ byFrom s ps i↔∃ (n:Nat) (p:Pte),ps[n]? = some p/\x = i + n/\p.fBa ≠ 0/\p.fDa = s
 | [],i=>by simp [byFrom]
 | d::ps,i=>by
  have ih:=mem_byFrom (s:=s) (x:=x) (ps:=ps) (i:=i + 1)
  have sp:(∃ (n:Nat) (p:Pte),(d::ps)[n]? = some p/\x = i + n/\p.fBa ≠ 0/\p.fDa = s)↔(x = i/\d.fBa ≠ 0/\d.fDa = s)\/∃ (n:Nat) (p:Pte),ps[n]? = some p/\x = i + 1 + n/\p.fBa ≠ 0/\p.fDa = s:=by
   constructor
   ·rintro ⟨n,e,h1,h2,h3⟩
    cases n with
    | zero=>simp at h1; subst h1; exact .inl ⟨by simpa using h2,h3⟩
    | succ n=>exact .inr ⟨n,e,by simpa using h1,by omega,h3⟩
   ·rintro (⟨h2,h3⟩ | ⟨n,e,h1,h2,h3⟩)
    ·exact ⟨0,d,rfl,by simpa using h2,h3⟩
    ·exact ⟨n + 1,e,by simpa using h1,by omega,h3⟩
  rw [sp,← ih,byFrom]
  split
  ·rename_i hd
   rw [List.mem_cons]
   constructor
   ·rintro (h | h)
    ·exact .inl ⟨h,hd⟩
    ·exact .inr h
   ·rintro (h | h)
    ·exact .inl h.1
    ·exact .inr h
  ·rename_i hd
   constructor
   ·exact .inr
   ·rintro (h | h)
    ·exact absurd h.2 hd
    ·exact h
theorem mem_by {ps:List Pte} (hl:ps.length = 8) {s x:Int}:x ∈ by_ ps s↔(get ps x).2 = true/\(get ps x).1.fDa = s:=by
 unfold by_
 rw [mem_byFrom]
 constructor
 ·rintro ⟨n,p,h1,rfl,h2,h3⟩
  have hn:=(List.getElem?_eq_some_iff.1 h1).1
  have hi:bB ((0:Int) + n) = true:=by unfold bB; simp; omega
  have ha:at_ ps ((0:Int) + n) = p:=by simp [at_,h1]
  rw [get_at hi (by rw [ha]; exact h2),ha]
  exact ⟨rfl,h3⟩
 ·rintro ⟨h1,h2⟩
  by_cases hh:bB x = true/\(at_ ps x).fBa ≠ 0
  ·rw [get_at hh.1 hh.2] at h2
   obtain ⟨n,rfl,hn⟩:=nD hh.1
   refine ⟨n,at_ ps n,?_,by simp,hh.2,h2⟩
   have:n < ps.length:=by omega
   simp [at_,this]
  ·rw [get_no hh] at h1; cases h1
end Table
namespace PK
def q (k:PK) (e pg:Int):Pte:=(pte k e pg).1
theorem pte_snd (k:PK) (e pg:Int):(pte k e pg).2 = decide ((q k e pg).fBa ≠ 0):=by
 unfold q pte; split
 ·rfl
 ·exact Table.get_snd _ _
theorem off_iff {k:PK} {e:Int}:off k e = false↔0 <= e/\e < k.s.fJa:=by unfold off; simp
theorem q_on {k:PK} {e pg:Int} (h:(q k e pg).fBa ≠ 0):off k e = false/\(Table.get (tab k e) pg).2 = true/\q k e pg = (Table.get (tab k e) pg).1:=by
 cases ho:off k e with
 | true=>unfold q pte at h; rw [if_pos ho] at h; exact absurd rfl h
 | false =>
  have e1:q k e pg = (Table.get (tab k e) pg).1:=by unfold q pte; rw [if_neg (by rw [ho]; exact Bool.false_ne_true)]
  refine ⟨rfl,?_,e1⟩
  rw [Table.get_snd,← e1]; simpa using h
theorem vu {k:PK} {e:Int} (h:off k e = false) (pg:Int):q k e pg = (Table.get (tab k e) pg).1:=by unfold q pte; rw [if_neg (by rw [h]; exact Bool.false_ne_true)]
theorem tab_in {k:PK} (ok:PK.Ok k) {e:Int} (h:off k e = false):e.toNat < k.tabs.length/\(tab k e).length = 8:=by
 have h1:=off_iff.1 h
 have h2:=ok.tl
 have:e.toNat < k.tabs.length:=by omega
 exact ⟨this,(tab_ok ok e this).1⟩
theorem tab_set' {k:PK} (ok:PK.Ok k) {e:Int} (h:off k e = false) (ps:List Pte) {a:Int} (ha:off k a = false):tab { k with tabs:=k.tabs.set e.toNat ps } a = if a = e then ps else tab k a:=by
 have h1:=off_iff.1 h
 have h2:=off_iff.1 ha
 have h3:=(tab_in ok h).1
 have h4:=(tab_in ok ha).1
 simp only [tab,getD_eq_getElem?_getD,List.getElem?_set]
 by_cases e1:a = e
 ·subst e1; simp [h3]
 ·have:¬ e.toNat = a.toNat:=by omega
  rw [if_neg this,if_neg e1]
theorem q_tabs {k:PK} (ok:PK.Ok k) {e:Int} (h:off k e = false) (ps:List Pte) (a pg:Int):q { k with tabs:=k.tabs.set e.toNat ps } a pg = if a = e then (Table.get ps pg).1 else q k a pg:=by
 cases ha:off k a with
 | true =>
  have e1:a ≠ e:=fun e1=>by rw [e1,h] at ha; cases ha
  rw [if_neg e1]
  unfold q pte
  have:off { k with tabs:=k.tabs.set e.toNat ps } a = true:=ha
  rw [if_pos this,if_pos ha]
 | false =>
  have h':off { k with tabs:=k.tabs.set e.toNat ps } a = false:=ha
  rw [vu h',tab_set' ok h ps ha]
  split
  ·rfl
  ·rw [vu ha]
structure Fine (k:PK):Prop where
 ok:PK.Ok k
 by_:∀ e pg,(q k e pg).fBa ≠ 0->fAa.has k.caps e (q k e pg).fDa = true/\(fAa.get k.caps e (q k e pg).fDa).fEa = (q k e pg).fEa/\aP (q k e pg).fBa (fAa.get k.caps e (q k e pg).fDa).fBa = true
 num:∀ f:Int,0 <= f->f < k.s.fXa->Pool.refs k.pool f = fAa.cnt f k.caps
theorem q_new (s:fQ) (e pg:Int):q (new s) e pg = dn:=by
 unfold q pte
 split
 ·rfl
 ·rename_i h
  have h':off (new s) e = false:=by simpa using h
  have h1:=off_iff.1 h'
  have h2:e < s.fJa:=h1.2
  have:tab (new s) e = replicate 8 dn:=by
   simp only [tab,new,getD_eq_getElem?_getD,List.getElem?_replicate]
   rw [if_pos (by omega)]; rfl
  rw [this]
  unfold Table.get
  split
  ·rename_i hh
   exfalso; apply hh.2
   simp only [Table.at_,getD_eq_getElem?_getD,List.getElem?_replicate]
   split <;> rfl
  ·rfl
theorem fine_new {s:fQ} (h:sized s = true):Fine (new s):=by
 refine ⟨ok_new h,fun e pg hq=>by rw [q_new] at hq; exact absurd rfl hq,fun f h0 h1=>?_⟩
 have:fAa.cnt f (new s).caps = 0:=fAa.cnt_new f _
 rw [this]
 unfold Pool.refs
 rw [if_neg (by omega)]
 simp only [new,getD_eq_getElem?_getD,List.getElem?_replicate]
 split <;> rfl
theorem touch_same (k:PK) (f:Int) (c:dp):(touch k f c).2.caps = k.caps/\(touch k f c).2.tabs = k.tabs/\(touch k f c).2.pool = k.pool/\(touch k f c).2.s = k.s:=by
 unfold touch
 repeat' split
 all_goals exact ⟨rfl,rfl,rfl,rfl⟩
theorem q_same {k k':PK} (h1:k'.tabs = k.tabs) (h2:k'.s = k.s) (e pg:Int):q k' e pg = q k e pg:=by
 unfold q pte off tab; rw [h1,h2]
theorem fine_same {k k':PK} (F:Fine k) (ok:PK.Ok k') (h0:k'.caps = k.caps) (h1:k'.tabs = k.tabs) (h2:k'.s = k.s) (h3:k'.pool = k.pool):Fine k' :=
 ⟨ok,fun e pg hq=>by rw [q_same h1 h2] at hq ⊢; rw [h0]; exact F.by_ e pg hq,fun f a b=>by rw [h0,h3]; exact F.num f a (by rw [← h2]; exact b)⟩
theorem fine_touch {k:PK} (F:Fine k) (f:Int) (c:dp):Fine (touch k f c).2 :=
 have h:=touch_same k f c
 fine_same F (ok_touch F.ok f c) h.1 h.2.1 h.2.2.2 h.2.2.1
end PK
end
end Go.Proofs.YtemoifebbhoinaaGreatDoor
