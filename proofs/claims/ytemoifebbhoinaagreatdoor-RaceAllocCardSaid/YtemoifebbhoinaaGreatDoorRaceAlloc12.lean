/- Part of the proof of: The law RaceAlloc returns true for every input, and leaves its arguments as they were. -/
import Derived.Test.YtemoifebbhoinaaGreatDoorRaceAlloc11
set_option linter.all false
set_option maxRecDepth 20000
namespace Go.Proofs.YtemoifebbhoinaaGreatDoor
open Tryz
section
open Go Mb
set_option linter.unusedVariables false
def hist_May_l1 (a0:Sl) (a1:aE) (K:Bool->Hp->Prop) (v12:(Option Nat)) (v13:(Option Nat)) (Rec4:(Int × Int)->Hp->Prop) (s3:Int × Int):Hp->Prop:=br (decide (s3.2 < (a0.len:Int))) ( ix a0 s3.2 fun q18=>ld (q18.1,q18.2 + Int.toNat s3.2 * 16) av.C fun x19=>br ((!(!(eI x19 a1 s3.1))) && (decide (x19.fHa > 0))) ( hpv prog (Instr.lookup dF (.map v12) (.int .i64 x19.fHa) false) aC fun (v33:Bool)=>br v33 ( K false) ( hpv prog (Instr.lookup gV (.map v13) (.int .i64 x19.fQa) true) bL fun (v40:Int × Bool)=>br (v40.2 && ((decide (v40.1 <= 0)) || (decide (x19.fRa <= v40.1)))) ( K false) ( hpu prog (Instr.mapUpdate dF (.map v12) (.int .i64 x19.fHa) (.bool true))<|hpu prog (Instr.mapUpdate gV (.map v13) (.int .i64 x19.fQa) (.int .i64 x19.fXa))<|Rec4 (x19.fRa,(IntKind.i64.wrap (s3.2 + 1)))))) ( br ((!(eI x19 a1 s3.1)) || false) ( K false) ( hpv prog (Instr.lookup gV (.map v13) (.int .i64 x19.fQa) true) bL fun (v40:Int × Bool)=>br (v40.2 && ((decide (v40.1 <= 0)) || (decide (x19.fRa <= v40.1)))) ( K false) ( hpu prog (Instr.mapUpdate dF (.map v12) (.int .i64 x19.fHa) (.bool true))<|hpu prog (Instr.mapUpdate gV (.map v13) (.int .i64 x19.fQa) (.int .i64 x19.fXa))<|Rec4 (x19.fRa,(IntKind.i64.wrap (s3.2 + 1))))))) ( K true)
def sh_hist_May (a0:Sl) (a1:aE) (K:Bool->Hp->Prop):Hp->Prop:=hpv prog (Instr.makeMap dF none) R_map_int_bool fun (v12:(Option Nat))=>hpv prog (Instr.makeMap gV none) R_map_int_int fun (v13:(Option Nat))=>Lp (hist_May_l1 a0 a1 K v12 v13) (0,0)
theorem sim_hist_May (a0:Sl) (a1:aE) {K:Bool->Hp->Prop} {h:Hp} (H:sh_hist_May a0 a1 K h):Ct prog xk #[(sv a0),(.agg (aE.C a1).toArray)] h fun v h'=>∃ r,v = aC r/\K r h':=ay [(sv a0),(.agg (aE.C a1).toArray)] func25 c c c fun _=>M<|aa<|cO (l:=aE.C a1) c c c fun b3=>O c<|M<|aa<|aR H x_makeMap0 c fun v12 _ H1=>aa<|aR H1 x_makeMap0 c fun v13 _ H2=>p (au c)<|p (au c)<|O c<|al<|M<|J c<|p (dz c underlying42 c)<|J c<|ad<|aA<|bE (step:=hist_May_l1 a0 a1 K v12 v13) (fun s3=>[(3,(.pointer (some ⟨b3,0,none⟩))),(5,(.int .i64 s3.1)),(6,(.map v12)),(7,(.map v13)),(14,(sv a0)),(15,(.int .i64 (a0.len:Int))),(16,(.int .i64 s3.2))]) (fun s3=>[bx b3 25 (aE.C a1)]) H2 (.cons c<|.cons c<|.cons c<|.cons c<|.cons c<|.cons c<|.cons c<|.nil _) (.cons_cons _ .slnil) fun Rec4 s3 _ H5=>M<|p (cx c c)<|ad<|al<|aw c H5 (fun k6 H7=>ao<|al<|aA<|M<|cm H7 fun q18 e8 h9 H10=>p (bq rg (aN c<|bb e8) c h9)<|aa<|gP H10 uH c (fun _=>c) c fun x19 H11=>aa<|aM (l:=av.C (⟨0,0,(⟨0,0,0,0,0⟩:ai),0,0,0,(⟨0,0⟩:ab),(⟨0,0,0,0⟩:am)⟩:av)) tN c c fun b9=>aa<|aP (k:=0) (vs:=av.C x19) inf_56 c c c c c c c<|ad<|al<|M<|bh (bF (k:=0) uH c c c c) c<|bh (bF (k:=1) pO c c c c) c<|J c<|aa<|cK (vs:=[(.agg (av.C x19).toArray),(.agg (aE.C a1).toArray),(.int .i64 s3.1)]) (bz<|ct_hist_one x19 a1 s3.1 _) en_61 c c<|p (cr c)<|J c<|V c c (aL _) (fun g12=>wv<|ae jd c)<|V c c (aL _) (fun g13=>cv<|bf (k:=0) aZ (aD c g13) c c)<|V c c (aL _) (fun g14=>wv<|qB (aD c g14) c)<|V c c (aL _) (fun g15=>wv<|ah<|aD c g15)<|V c c (fM _ _) (fun g16=>wv<|ah c)<|V c c (fM _ _) (fun g17=>wv<|ae jd c)<|V c c (fM _ _) (fun g18=>cv<|bf (k:=0) aZ (aD c g18) c c)<|bS H11 (fun k20 H21=>F ((gv_t (b_l k20) _).trans<|D<|b_r k20)<|aR H21 (x_lookup (aD c k20)<|aD c k20) c fun v33 _ H22=>F (D<|bW<|b_l k20)<|R (aT (aD c<|b_l k20) (b_r k20) c)<|p (aq c (bW<|b_l k20) c)<|ad<|aw c H22 (fun k23 H24=>M<|O c<|aj<|Y ⟨false,c,H24⟩) fun k23 H24=>ao<|al<|M<|J c<|p (ae qX c)<|bh (bf (k:=0) aZ c c c) c<|aa<|aR H24 (x_lookup c c) c fun v40 _ H25=>J c<|p (ak c c)<|p (ak c c)<|p (au c)<|O c<|M<|J c<|J c<|V c c (aB _) (fun g26=>wv<|ah c)<|V c c (aB _) (fun g27=>wv<|v_le (aD c g27) c)<|V c c (aB _) (fun g28=>wv<|ah<|aD c g28)<|V c c (dU _ _) (fun g29=>wv<|ae tv c)<|V c c (dU _ _) (fun g30=>cv<|bf (k:=0) aZ (aD c g30) c c)<|V c c (dU _ _) (fun g31=>wv<|ah c)<|V c c (dU _ _) (fun g32=>wv<|v_le (aD c g32)<|aD c g32)<|V c c (aB _) (fun g33=>wv<|dp (aD c g33)<|aN c<|xu g33)<|p (bT c c)<|ad<|aw c H25 (fun k34 H35=>M<|O c<|aj<|Y ⟨false,c,H35⟩) fun k34 H35=>ao<|bn (n:=13) [bx b9 56 (av.C x19)] cu c (.cons_cons _<|.cons _ .slnil)<|U 0 c (ah c)<|U 1 c (ae jd c)<|z_E 2 c (dk (k:=0) aZ c c c)<|U 3 c (ah c)<|U 4 c (ae qX c)<|z_E 5 c (dk (k:=0) aZ c c c)<|U 6 c (ae tv c)<|z_E 7 c (dk (k:=0) aZ c c c)<|U 8 c (ae qW c)<|z_E 9 c (dk (k:=0) aZ c c c)<|U 10 c (au c)<|G 11 c<|to_hpu H35 (lc c c c) fun _ H36=>⟨.cons_cons _<|.cons _ .slnil,G 12 c<|to_hpu H36 (lc c c c) fun _ H37=>⟨.cons_cons _<|.cons _ .slnil,aV (by kernel_rfl)<|ap<|p (bo c c)<|J c<|ad<|cN (x19.fRa,(IntKind.i64.wrap (s3.2 + 1))) H37 (.cons c<|.cons c<|.cons c<|.cons c<|.cons c<|.cons c<|.cons c<|.nil _)<|.cons _<|.cons_cons _ .slnil⟩⟩) fun k20 H21=>W ((fM _ _).trans k20)<|V c c (aL _) (fun g38=>wv<|aq (aD c g38) (b_andr k20 g38) c)<|p (dp c c)<|ad<|aw c H21 (fun k39 H40=>M<|O c<|aj<|Y ⟨false,c,H40⟩) fun k39 H40=>ao<|al<|M<|J c<|p (ae qX c)<|bh (bf (k:=0) aZ c c c) c<|aa<|aR H40 (x_lookup c c) c fun v40 _ H41=>J c<|p (ak c c)<|p (ak c c)<|p (au c)<|O c<|M<|J c<|J c<|V c c (aB _) (fun g42=>wv<|ah c)<|V c c (aB _) (fun g43=>wv<|v_le (aD c g43) c)<|V c c (aB _) (fun g44=>wv<|ah<|aD c g44)<|V c c (dU _ _) (fun g45=>wv<|ae tv c)<|V c c (dU _ _) (fun g46=>cv<|bf (k:=0) aZ (aD c g46) c c)<|V c c (dU _ _) (fun g47=>wv<|ah c)<|V c c (dU _ _) (fun g48=>wv<|v_le (aD c g48)<|aD c g48)<|V c c (aB _) (fun g49=>wv<|dp (aD c g49)<|aN c<|xu g49)<|p (bT c c)<|ad<|aw c H41 (fun k50 H51=>M<|O c<|aj<|Y ⟨false,c,H51⟩) fun k50 H51=>ao<|bn (n:=13) [bx b9 56 (av.C x19)] cu c (.cons_cons _<|.cons _ .slnil)<|U 0 c (ah c)<|U 1 c (ae jd c)<|z_E 2 c (dk (k:=0) aZ c c c)<|U 3 c (ah c)<|U 4 c (ae qX c)<|z_E 5 c (dk (k:=0) aZ c c c)<|U 6 c (ae tv c)<|z_E 7 c (dk (k:=0) aZ c c c)<|U 8 c (ae qW c)<|z_E 9 c (dk (k:=0) aZ c c c)<|U 10 c (au c)<|G 11 c<|to_hpu H51 (lc c c c) fun _ H52=>⟨.cons_cons _<|.cons _ .slnil,G 12 c<|to_hpu H52 (lc c c c) fun _ H53=>⟨.cons_cons _<|.cons _ .slnil,aV (by kernel_rfl)<|ap<|p (bo c c)<|J c<|ad<|cN (x19.fRa,(IntKind.i64.wrap (s3.2 + 1))) H53 (.cons c<|.cons c<|.cons c<|.cons c<|.cons c<|.cons c<|.cons c<|.nil _)<|.cons _<|.cons_cons _ .slnil⟩⟩) fun k6 H7=>bi<|M<|O c<|aj<|Y ⟨true,c,H7⟩
def tt (a0:Sl) (a1:Value) (K:Sl->Hp->Prop) (Rec2:(Sl × Int)->Hp->Prop) (s1:Sl × Int):Hp->Prop:=br (decide (s1.2 < (a0.len:Int))) ( ix a0 s1.2 fun q13=>ld (q13.1,q13.2 + Int.toNat s1.2 * 16) av.C fun x14=>clv prog a1 [(.agg (av.C x14).toArray)] aC fun r17=>br r17 ( hpv prog (Instr.buildSlice dG 1 #[(0,(.int .i64 s1.2))]) cC fun (v20:Sl)=>hpv prog (Builtin.append_ #[dG,dG] dG #[(sv s1.1),(sv v20)]) cC fun (v21:Sl)=>Rec2 (v21,(IntKind.i64.wrap (s1.2 + 1)))) ( Rec2 (s1.1,(IntKind.i64.wrap (s1.2 + 1))))) ( K s1.1)
def sh_hist_places (a0:Sl) (a1:Value) (K:Sl->Hp->Prop):Hp->Prop:=Lp (tt a0 a1 K) ((⟨none,0,0,none⟩:Sl),0)
theorem sim_hist_places (a0:Sl) (a1:Value) {K:Sl->Hp->Prop} {h:Hp} (H:sh_hist_places a0 a1 K h):Ct prog qu #[(sv a0),a1] h fun v h'=>∃ r,v = cC r/\K r h':=ay [(sv a0),a1] func92 c c c fun _=>M<|O c<|M<|O c<|al<|M<|J c<|p (dz c underlying42 c)<|J c<|ad<|aA<|bE (step:=tt a0 a1 K) (fun s1=>[(1,a1),(5,(sv s1.1)),(8,(sv a0)),(9,(.int .i64 (a0.len:Int))),(10,(.int .i64 s1.2))]) (fun s1=>[]) H (.cons c<|.cons c<|.cons c<|.cons c<|.cons c<|.nil _) .slnil fun Rec2 s1 _ H3=>M<|p (cx c c)<|ad<|al<|aw c H3 (fun k4 H5=>ao<|al<|aA<|M<|J c<|cm H5 fun q13 e6 h7 H8=>p (bq rg (aN c<|bb e6) c h7)<|aa<|gP H8 uH c (fun _=>c) c fun x14 H9=>aa<|aM (l:=av.C (⟨0,0,(⟨0,0,0,0,0⟩:ai),0,0,0,(⟨0,0⟩:ab),(⟨0,0,0,0⟩:am)⟩:av)) tN c c fun b7=>p (au c)<|aa<|aP (k:=0) (vs:=av.C x14) inf_56 c c c c c c c<|ad<|M<|J c<|bh (bF (k:=0) uH c c c c) c<|aa<|to_clv H9 c c c fun r17 _ H10=>ad<|aw c H10 (fun k11 H12=>ap<|J c<|J c<|aa<|aR H12 (bw (vs:=[(.int .i64 s1.2)]) c) c fun v20 _ H13=>aa<|aR H13 (dE c c) c fun v21 _ H14=>O c<|ap<|p (bo c c)<|J c<|ad<|cN (v21,(IntKind.i64.wrap (s1.2 + 1))) H14 (.cons c<|.cons c<|.cons c<|.cons c<|.cons c<|.nil _)<|.cons _ .slnil) fun k11 H12=>ao<|ap<|p (bo c c)<|J c<|ad<|cN (s1.1,(IntKind.i64.wrap (s1.2 + 1))) H12 (.cons c<|.cons c<|.cons c<|.cons c<|.cons c<|.nil _)<|.cons _ .slnil) fun k4 H5=>bi<|M<|J c<|O c<|aj<|Y ⟨s1.1,c,H5⟩
def vy (a0:Int) (a1:Int) (c0:Nat) (K:Int->Hp->Prop):Hp->Prop:=ld (c0,0) cS fun x6=>ix x6 a0 fun q8=>ld (q8.1,q8.2 + Int.toNat a0 * 16 + 8) (cI .i64) fun x10=>ld (c0,0) cS fun x11=>ix x11 a1 fun q13=>ld (q13.1,q13.2 + Int.toNat a1 * 16 + 8) (cI .i64) fun x15=>K (fR x10 x15)
theorem sim_hist_Order_c2 (a0:Int) (a1:Int) (c0:Nat) {K:Int->Hp->Prop} {h:Hp} (H:vy a0 a1 c0 K h):Ct prog rp #[(.int .i64 a0),(.int .i64 a1),(.pointer (some ⟨c0,0,none⟩))] h fun v h'=>∃ r,v = ee r/\K r h':=ay [(.int .i64 a0),(.int .i64 a1),(.pointer (some ⟨c0,0,none⟩))] func95 c c c fun _=>M<|O c<|al<|bn (n:=12) [] cu c .slnil<|U 1 c (ah c)<|U 6 c (ah c)<|bI (i:=0) (fun _ _ _ _ hh=>hh) H c (by kernel_rfl) sc_42 c (fun _=>c) c fun x6 H1=>gn H1 fun q8 e2 h3 H4=>U 2 c (bq rg (aN c<|bb e2) c h3)<|U 3 c (ae jd c)<|bI (i:=4) (fun _ _ _ _ hh=>hh) H4 c (by kernel_rfl) aZ c (fun _=>c) c fun x10 H5=>bI (i:=5) (fun _ _ _ _ hh=>hh) H5 c (by kernel_rfl) sc_42 c (fun _=>c) c fun x11 H6=>gn H6 fun q13 e7 h8 H9=>U 7 c (bq rg (aN c<|bb e7) c h8)<|U 8 c (ae jd c)<|bI (i:=9) (fun _ _ _ _ hh=>hh) H9 c (by kernel_rfl) aZ c (fun _=>c) c fun x15 H10=>G 10 c<|cK (vs:=[(.int .i64 x10),(.int .i64 x15)]) (bz<|ct_cmp_Compare_int x10 x15 _) en_96 c c ⟨.slnil,U 11 c (au c)<|aV (by kernel_rfl)<|aj<|Y ⟨fR x10 x15,c,H10⟩⟩
def sh_hist_Order (a0:Sl) (K:Sl->Hp->Prop):Hp->Prop:=nw eN [sv a0] fun b1=>ld (b1,0) cS fun x4=>cl prog qu [(sv x4),(.func (.func nk) #[] #[])] cC fun r5=>cl prog fJ [(sv r5),(.func (.func rp) #[] #[(.pointer (some ⟨b1,0,none⟩))])] R_ fun (_:Unit)=>K r5
theorem sim_hist_Order (a0:Sl) {K:Sl->Hp->Prop} {h:Hp} (H:sh_hist_Order a0 K h):Ct prog oS #[(sv a0)] h fun v h'=>∃ r,v = cC r/\K r h':=ay [(sv a0)] func44 c c c fun _=>M<|aa<|hY c c c H fun b1 _ H1=>O c<|M<|aa<|aW H1 sc_42 c (fun _=>c) c fun x4 H2=>aa<|Z H2 en_92 fun r5 _ H3=>O c<|M<|J c<|p (v_func c c)<|aa<|Z H3 en_94 fun r8 _ H4=>ad<|M<|J c<|O c<|aj<|Y ⟨r5,c,H4⟩
def sh_hist_Over_c1 (a0:av) (c0:Nat) (K:Bool->Hp->Prop):Hp->Prop:=ld (c0,0) (cI .i64) fun x6=>br ((decide (a0.fRa <= x6)) && (!(a0.fHa == 0))) ( ld (c0,0) (cI .i64) fun x15=>K (decide (a0.fHa > x15))) ( K ((decide (a0.fRa <= x6)) && true))
theorem sim_hist_Over_c1 (a0:av) (c0:Nat) {K:Bool->Hp->Prop} {h:Hp} (H:sh_hist_Over_c1 a0 c0 K h):Ct prog ti #[(.agg (av.C a0).toArray),(.pointer (some ⟨c0,0,none⟩))] h fun v h'=>∃ r,v = aC r/\K r h':=ay [(.agg (av.C a0).toArray),(.pointer (some ⟨c0,0,none⟩))] func221 c c c fun _=>M<|aa<|cO (l:=av.C a0) c c c fun b2=>O c<|M<|p (ae tv c)<|bh (bf (k:=0) aZ c c c) c<|aa<|aW H aZ c (fun _=>c) c fun x6 H1=>p (v_le c c)<|J c<|V c c (aB _) (fun g2=>wv<|ae jd c)<|V c c (aB _) (fun g3=>cv<|bf (k:=0) aZ (aD c g3) c c)<|V c c (aB _) (fun g4=>wv<|bQ (aD c g4) c)<|V c c (aB _) (fun g5=>wv<|ah<|aD c g5)<|V c c (dU _ _) (fun g6=>wv<|ae jd c)<|V c c (dU _ _) (fun g7=>cv<|bf (k:=0) aZ (aD c g7) c c)<|bS H1 (fun k9 H10=>F ((gv_t (b_l k9) _).trans<|D<|bW<|b_r k9)<|aW H10 aZ c (fun _=>c) c fun x15 H11=>F ((gv_t (b_l k9) _).trans<|D<|bW<|b_r k9)<|R (qB (aD c k9) c)<|F (D<|b_l k9)<|R (aq (aD c<|b_l k9) (bW<|b_r k9) c)<|p (aT c (b_l k9) c)<|O c<|aj<|Y ⟨decide (a0.fHa > x15),c,H11⟩) fun k9 H10=>W ((dU _ _).trans k9)<|W ((dU _ _).trans k9)<|V c c (aB _) (fun g12=>wv<|aT (aD c g12) (bH<|b_andr k9 g12) c)<|p (bT c c)<|O c<|aj<|Y ⟨((decide (a0.fRa <= x6)) && true),c,H10⟩
def sh_hist_Over (a0:Sl) (a1:Int) (K:Sl->Hp->Prop):Hp->Prop:=nw km [.int .i64 a1] fun b3=>cl prog qu [(sv a0),(.func (.func ti) #[] #[(.pointer (some ⟨b3,0,none⟩))])] cC fun r7=>K r7
theorem sim_hist_Over (a0:Sl) (a1:Int) {K:Sl->Hp->Prop} {h:Hp} (H:sh_hist_Over a0 a1 K h):Ct prog n_hist_Over #[(sv a0),(.int .i64 a1)] h fun v h'=>∃ r,v = cC r/\K r h':=ay [(sv a0),(.int .i64 a1)] func206 c c c fun _=>M<|aa<|hY c c c H fun b3 _ H1=>O c<|M<|J c<|p (v_func c c)<|aa<|Z H1 en_92 fun r7 _ H2=>O c<|aj<|Y ⟨r7,c,H2⟩
end
section
open Go Mb
namespace Hist
def fFb (P:bm->Bool):List bm->Int->List Int
 | [],_=>[]
 | e::es,i=>if P e = true then i::fFb P es (i + 1) else fFb P es (i + 1)
def places (P:bm->Bool) (es:List bm):List Int:=fFb P es 0
def ev00:bm:=KK.ev0 0 0 ⟨0,0,0,0,0⟩ 0
def eff (es:List bm) (i:Int):Int:=(es.getD i.toNat ev00).fHa
def ins (key:Int->Int) (x:Int):List Int->List Int
 | []=>[x]
 | y::l=>if key x < key y then x::y::l else y::ins key x l
def isort (key:Int->Int):List Int->List Int
 | []=>[]
 | x::l=>ins key x (isort key l)
def effs (es:List bm):List Int:=places (fun e=>decide (e.fHa > 0)) es
def order (es:List bm):List Int:=isort (eff es) (effs es)
def over (es:List bm) (at_:Int):List Int:=places (fun e=>decide (e.fRa <= at_) && (e.fHa == 0 || decide (e.fHa > at_))) es
def done (es:List bm):List Int:=places (fun e=>e.fXa != 0) es
def endOf (ends:List (Int × Int)) (c:Int):Option Int:=(ends.find? (fun p=>p.1 == c)).map (·.2)
def stops (ends:List (Int × Int)) (e:bm):Bool:=match endOf ends e.fQa with
 | some n=>decide (n <= 0) || decide (e.fRa <= n)
 | none=>false
def mayFrom (s:fD):List bm->Int->List Int->List (Int × Int)->Bool
 | [],_,_,_=>true
 | e::es,last,seen,ends=>if eI e s last = false\/(e.fHa > 0/\e.fHa ∈ seen) then false else if stops ends e = true then false else mayFrom s es e.fRa (e.fHa::seen) ((e.fQa,e.fXa)::ends)
def may (es:List bm) (s:fD):Bool:=mayFrom s es 0 [] []
theorem placesFrom_app (P:bm->Bool) (e:bm):∀ (es:List bm) (i:Int),fFb P (es++[e]) i = fFb P es i++(if P e = true then [i + es.length] else [])
 | [],i=>by simp only [List.nil_append,fFb]; split <;> simp
 | d::es,i=>by
  simp only [List.cons_append,fFb]
  rw [placesFrom_app P e es (i + 1)]
  have e1:i + 1 + (es.length:Int) = i + ((d::es).length:Int):=by simp; omega
  rw [e1]
  split <;> simp
theorem placesFrom_len (P:bm->Bool):∀ (es:List bm) (i:Int),(fFb P es i).length <= es.length
 | [],_=>Nat.le_refl _
 | e::es,i=>by unfold fFb; have:=placesFrom_len P es (i + 1); split <;> simp <;> omega
theorem placesFrom_c (P:bm->Bool) (d:bm) (es:List bm) (i:Int):fFb P (d::es) i = if P d = true then i::fFb P es (i + 1) else fFb P es (i + 1):=rfl
theorem mem_placesFrom {P:bm->Bool} {x:Int}:∀ {es:List bm} {i:Int},x ∈ fFb P es i↔∃ (n:Nat) (e:bm),es[n]? = some e/\x = i + n/\P e = true
 | [],i=>by simp [fFb]
 | d::es,i=>by
  have ih:=mem_placesFrom (P:=P) (x:=x) (es:=es) (i:=i + 1)
  have sp:(∃ (n:Nat) (e:bm),(d::es)[n]? = some e/\x = i + n/\P e = true)↔(x = i/\P d = true)\/∃ (n:Nat) (e:bm),es[n]? = some e/\x = i + 1 + n/\P e = true:=by
   constructor
   ·rintro ⟨n,e,h1,h2,h3⟩
    cases n with
    | zero=>simp at h1; subst h1; exact .inl ⟨by simpa using h2,h3⟩
    | succ n=>exact .inr ⟨n,e,by simpa using h1,by omega,h3⟩
   ·rintro (⟨h2,h3⟩ | ⟨n,e,h1,h2,h3⟩)
    ·exact ⟨0,d,rfl,by simpa using h2,h3⟩
    ·exact ⟨n + 1,e,by simpa using h1,by omega,h3⟩
  rw [sp,← ih,placesFrom_c]
  split
  ·rename_i hd
   rw [List.mem_cons]
   constructor
   ·rintro (h | h)
    ·exact .inl ⟨h,hd⟩
    ·exact .inr h
   ·rintro (h | h)
    ·exact .inl h.1
    ·exact .inr h
  ·rename_i hd
   constructor
   ·exact .inr
   ·rintro (h | h)
    ·exact absurd h.2 hd
    ·exact h
theorem mem_places {P:bm->Bool} {x:Int} {es:List bm}:x ∈ places P es↔∃ (n:Nat) (e:bm),es[n]? = some e/\x = n/\P e = true:=by
 unfold places
 rw [mem_placesFrom]
 simp
theorem places_in {P:bm->Bool} {x:Int} {es:List bm} (h:x ∈ places P es):0 <= x/\x < es.length:=by
 obtain ⟨n,e,h1,rfl,_⟩:=mem_places.1 h
 have:=(List.getElem?_eq_some_iff.1 h1).1
 omega
theorem ins_perm (key:Int->Int) (x:Int):∀ l,(ins key x l).Perm (x::l)
 | []=>.refl _
 | y::l=>by
  unfold ins; split
  ·exact .refl _
  ·exact ((ins_perm key x l).cons y).trans (.swap _ _ _)
theorem isort_perm (key:Int->Int):∀ l,(isort key l).Perm l
 | []=>.refl _
 | x::l=>(ins_perm key x _).trans ((isort_perm key l).cons x)
theorem ins_up (key:Int->Int) (x:Int):∀ l,Up key l->Up key (ins key x l)
 | [],_=>List.pairwise_singleton _ _
 | y::l,h=>by
  obtain ⟨h1,h2⟩:=List.pairwise_cons.1 h
  unfold ins; split
  ·rename_i hx
   refine List.pairwise_cons.2 ⟨fun z hz=>?_,h⟩
   rcases List.mem_cons.1 hz with rfl | hz
   ·omega
   ·have:=h1 z hz; omega
  ·rename_i hx
   refine List.pairwise_cons.2 ⟨fun z hz=>?_,ins_up key x l h2⟩
   rcases List.mem_cons.1 ((ins_perm key x l).subset hz) with rfl | hz
   ·omega
   ·exact h1 z hz
theorem isort_up (key:Int->Int):∀ l,Up key (isort key l)
 | []=>.nil
 | x::l=>ins_up key x _ (isort_up key l)
def Apart (es:List bm):Prop:=∀ a b,a ∈ effs es->b ∈ effs es->eff es a = eff es b->a = b
theorem order_of {es:List bm} (ha:Apart es) {l:List Int} (hp:l.Perm (effs es)) (hu:Up (eff es) l):l = order es:=by
 refine List.Perm.eq_of_pairwise (le:=fun x y=>eff es x <= eff es y) (fun a b h1 h2 h3 h4=>?_) hu (isort_up _ _) (hp.trans (isort_perm _ _).symm)
 exact ha a b (hp.subset h1) ((isort_perm _ _).subset h2) (by omega)
theorem mayFrom_apart {s:fD}:∀ {es:List bm} {last:Int} {seen:List Int} {ends:List (Int × Int)},mayFrom s es last seen ends = true ->
  (∀ (n:Nat) e,es[n]? = some e->e.fHa > 0->e.fHa ∉ seen)/\∀ (n m:Nat) e d,es[n]? = some e->es[m]? = some d->e.fHa > 0->e.fHa = d.fHa->n = m
 | [],_,_,_,_=>⟨fun n e h=>by simp at h,fun n m e d h=>by simp at h⟩
 | e0::es,last,seen,ends,h=>by
  unfold mayFrom at h
  split at h
  ·cases h
  ·split at h
   ·cases h
   ·rename_i h1 _
    obtain ⟨i1,i2⟩:=mayFrom_apart h
    have h0:e0.fHa > 0->e0.fHa ∉ seen:=fun hp hm=>h1 (.inr ⟨hp,hm⟩)
    refine ⟨fun n e hn hp=>?_,fun n m e d hn hm hp he=>?_⟩
    ·cases n with
     | zero=>simp at hn; subst hn; exact h0 hp
     | succ n=>exact fun hm=>i1 n e (by simpa using hn) hp (by simp [hm])
    ·cases n with
     | zero =>
      cases m with
      | zero=>rfl
      | succ m =>
       simp at hn; subst hn
       exact absurd (by simp [he]) (i1 m d (by simpa using hm) (by omega))
     | succ n =>
      cases m with
      | zero =>
       simp at hm; subst hm
       exact absurd (by simp [he]) (i1 n e (by simpa using hn) hp)
      | succ m=>rw [i2 n m e d (by simpa using hn) (by simpa using hm) hp he]
theorem eff_nat {es:List bm} {n:Nat} {e:bm} (h:es[n]? = some e):eff es n = e.fHa:=by simp [eff,h]
theorem may_apart {es:List bm} {s:fD} (h:may es s = true):Apart es:=by
 intro a b ha hb he
 obtain ⟨n,e,h1,rfl,h2⟩:=mem_places.1 ha
 obtain ⟨m,d,h3,rfl,h4⟩:=mem_places.1 hb
 rw [eff_nat h1,eff_nat h3] at he
 rw [(mayFrom_apart h).2 n m e d h1 h3 (by simpa using h2) he]
end Hist
theorem sp_hist_places (s:Sl) (es:List bm) (v:Value) (P:bm->Bool) (A:List As) (hb:es.length < 2 ^ 38)
  (hv:∀ e ∈ es,SpV prog v [.agg e.C.toArray] aC (vE s es::A) (fun r=>pa_ (r = P e) (vE s es::A))) :
  Sp prog qu [sv s,v] cC (vE s es::A) (fun r=>aF (vI r (Hist.places P es)::vE s es::A)):=by
 intro h s0
 have hl:=(cj (j:=0) s0 rfl).1
 refine sim_hist_places _ _ ?_
 unfold sh_hist_places
 refine Lp.intro (fun (z:Sl × Int) h=>∃ n:Nat,z.2 = n/\n <= es.length/\aF (vI z.1 (Hist.fFb P (es.take n) 0)::vE s es::A) h) (fun (z:Sl × Int) _=>es.length - z.2.toNat) ⟨0,rfl,Nat.zero_le _,fN s0⟩ ?_
 rintro ⟨z,i⟩ h ⟨n,rfl,hn,s1⟩
 unfold tt
 refine aY (fun k=>?_) (fun k=>?_)
 ·have hlt:n < es.length:=by rw [hl] at k; simpa using k
  have hw:IntKind.i64.wrap ((n:Int) + 1) = ((n + 1:Nat):Int):=by rw [bM (by omega) (by omega)]; rfl
  have ht:es.take (n + 1) = es.take n++[es[n]]:=by simp
  have hlen:((es.take n).length:Int) = n:=by simp; omega
  have hpl:=Hist.placesFrom_len P (es.take n) 0
  simp at hpl
  refine dy s1 (j:=1) rfl (by omega) (by show (n:Int) < _; omega) fun q hq=>?_
  refine eB (j:=1) (i:=n) (k:=0) es[n] mI s1 rfl hq rfl (aH hlt) (by simp) ?_
  refine clv_t (hv es[n] (List.getElem_mem hlt)) s1 fun r h2 s2=>?_
  obtain ⟨hr,s3⟩:=bt.1 s2
  have s4:=star_rot s3
  rw [hw]
  refine aY (fun k2=>?_) (fun k2=>?_)
  ·refine wk s4 (i:=0) rfl (by omega) fun v h' s5=>?_
   refine ⟨⟨n + 1,rfl,hlt,?_⟩,by simp; omega⟩
   rw [ht,Hist.placesFrom_app,if_pos (by rw [← hr,k2]),hlen,Int.zero_add]
   exact s5
  ·refine ⟨⟨n + 1,rfl,hlt,?_⟩,by simp; omega⟩
   rw [ht,Hist.placesFrom_app,if_neg (by rw [← hr,k2]; exact Bool.false_ne_true),List.append_nil]
   exact s4
 ·have:n = es.length:=by rw [hl] at k; simp at k; omega
  subst this
  rw [List.take_length] at s1
  exact s1
theorem cmp_neg (x y:Int):fR x y < 0↔x < y:=by
 unfold fR eu
 simp only [bne_self_eq_false,cond_false]
 by_cases h1:x < y
 ·simp [h1]
 ·by_cases h2:x > y
  ·simp [h1,h2]
  ·simp [h1,h2]
theorem sp_hist_Over (s:Sl) (es:List bm) (a:Int) (hb:es.length < 2 ^ 38):Sp prog n_hist_Over [sv s,.int .i64 a] cC [vE s es] (fun r=>aF [vI r (Hist.over es a),vE s es]):=by
 intro h s0
 refine sim_hist_Over _ _ ?_
 unfold sh_hist_Over
 refine pw s0 fun b3 h1 s1=>?_
 refine cQ [1,0] (sp_hist_places s es _ (fun e=>decide (e.fRa <= a) && (e.fHa == 0 || decide (e.fHa > a))) [blk b3 km [.int .i64 a]] hb ?_) s1 rfl fun r h2 s2=>?_
 ·intro e he
  refine ⟨_,_,_,rfl,enter_hist_Over_c1,fun h s3=>?_⟩
  refine sim_hist_Over_c1 e b3 ?_
  unfold sh_hist_Over_c1
  refine bk a s3 (i:=1) rfl rfl rfl ?_
  refine aY (fun k=>?_) (fun k=>?_)
  ·refine bk a s3 (i:=1) rfl rfl rfl ?_
   rw [Bool.and_eq_true] at k
   refine aX ?_ s3
   have k2:(e.fHa == 0) = false:=by simpa using k.2
   rw [k.1,k2]; rfl
  ·refine aX ?_ s3
   cases k1:decide (e.fRa <= a) with
   | false=>rfl
   | true =>
    rw [k1] at k
    have k2:(e.fHa == 0) = true:=by simpa using k
    rw [k2]; rfl
 ·have s3:=dB s2
  exact nJ (l:=[vI r (Hist.over es a),vE s es]) s3
theorem sp_hist_Order20 (s:Sl) (es:List bm) (hb:es.length <= 20) (ha:Hist.Apart es):Sp prog oS [sv s] cC [vE s es] (fun r=>aF [vI r (Hist.order es),vE s es]):=by
 intro h s0
 refine sim_hist_Order _ ?_
 unfold sh_hist_Order
 refine pw s0 fun b1 h1 s1=>?_
 refine bk s s1 (i:=0) rfl rfl rfl ?_
 refine cQ [1,0] (sp_hist_places s es _ (fun e=>decide (e.fHa > 0)) [blk b1 eN [sv s]] (by omega) ?_) s1 rfl fun r h2 s2=>?_
 ·intro e he
  refine ⟨_,_,_,rfl,enter_hist_Order_c1,fun h s3=>?_⟩
  exact (ct_hist_Order_c1 e h).mono fun v h' ⟨r,hv,hr,hh⟩=>⟨r,hv,hr,by rw [hh]; exact s3⟩
 ·have s3:=dB s2
  have hpl:=Hist.placesFrom_len (fun e=>decide (e.fHa > 0)) es 0
  refine cQ [0,0,0] (sp_SortStable20 r _ [vE s es,blk b1 eN [sv s]] (Hist.eff es) (fun x=>0 <= x/\x < es.length) ?_ (Hist.effs es) (fun x hx=>Hist.places_in hx) (by unfold Hist.effs Hist.places; omega)) s3 rfl fun u h4 s4=>?_
  ·rintro x y ⟨hx0,hx⟩ ⟨hy0,hy⟩
   refine ⟨_,_,_,rfl,enter_hist_Order_c2,fun h s5=>?_⟩
   obtain ⟨n,rfl⟩:=Int.eq_ofNat_of_zero_le hx0
   obtain ⟨m,rfl⟩:=Int.eq_ofNat_of_zero_le hy0
   have hn:n < es.length:=by omega
   have hm:m < es.length:=by omega
   refine sim_hist_Order_c2 n m b1 ?_
   unfold vy
   refine bk s s5 (i:=1) rfl rfl rfl ?_
   refine dy s5 (j:=0) rfl (by omega) (by omega) fun q hq=>?_
   refine eB (j:=0) (i:=n) (k:=8) es[n].fHa mI s5 rfl hq rfl (aH hn) (c1 rfl rfl) ?_
   refine bk s s5 (i:=1) rfl rfl rfl ?_
   refine dy s5 (j:=0) rfl (by omega) (by omega) fun q2 hq2=>?_
   refine eB (j:=0) (i:=m) (k:=8) es[m].fHa mI s5 rfl hq2 rfl (aH hm) (c1 rfl rfl) ?_
   refine aX ?_ s5
   rw [cmp_neg,Hist.eff_nat (aH hn),Hist.eff_nat (aH hm)]
  ·obtain ⟨g1,g2,d,rfl,⟨m',⟨p1,p2⟩,s5⟩,s6⟩:=s4
   rw [Hist.order_of ha p1 p2] at s5
   exact sA (nJ (l:=[vI r (Hist.order es),vE s es]) s5) d
theorem sp_hist_May (s:Sl) (es:List bm) (z:fD) (hb:es.length < 2 ^ 38):Sp prog xk [sv s,.agg z.C.toArray] aC [vE s es] (fun r=>pa_ (r = Hist.may es z) [vE s es]):=by
 intro h s0
 have hl:=(cj (j:=0) s0 rfl).1
 refine sim_hist_May _ _ ?_
 unfold sh_hist_May
 refine makeMap_m (τ:=Bool) (val:=fun x=>.bool x) rfl s0 fun b1 h1 s1=>?_
 refine makeMap_m (τ:=Int) (val:=fun x=>.int .i64 x) rfl s1 fun b2 h2 s2=>?_
 refine Lp.intro (fun (y:Int × Int) h=>∃ (n:Nat) (seen:List Int) (ends:List (Int × Int)),y.2 = n/\n <= es.length/\Hist.mayFrom z (es.drop n) y.1 seen ends = Hist.may es z/\aF [mapA b2 (fun x=>Value.int .i64 x) (Hist.endOf ends),mapA b1 (fun x=>Value.bool x) (fun x=>if x ∈ seen then some true else none),vE s es] h) (fun (y:Int × Int) _=>es.length - y.2.toNat) ⟨0,[],[],rfl,Nat.zero_le _,rfl,?_⟩ ?_
 ·have e1:(fun x:Int=>if x ∈ ([]:List Int) then some true else none) = fun _=>none:=by funext x; simp
  have e2:Hist.endOf [] = fun _=>none:=by funext x; rfl
  rw [e1,e2]; exact s2
 rintro ⟨last,i⟩ h ⟨n,seen,ends,rfl,hn,he,s3⟩
 unfold hist_May_l1
 simp only at he ⊢
 refine aY (fun k=>?_) (fun k=>?_)
 ·have hlt:n < es.length:=by rw [hl] at k; simpa using k
  have hw:IntKind.i64.wrap ((n:Int) + 1) = ((n + 1:Nat):Int):=by rw [bM (by omega) (by omega)]; rfl
  rw [List.drop_eq_getElem_cons hlt,Hist.mayFrom] at he
  refine dy s3 (j:=2) rfl (by omega) (by omega) fun q hq=>?_
  refine eB (j:=2) (i:=n) (k:=0) es[n] mI s3 rfl hq rfl (aH hlt) (by simp) ?_
  have rest:¬ (eI es[n] z last = false\/(es[n].fHa > 0/\es[n].fHa ∈ seen))->∀ K:(Int × Int)->Hp->Prop,
    (∀ (s':Int × Int) h',s'.1 = es[n].fRa/\s'.2 = ((n + 1:Nat):Int)->Hist.stops ends es[n] = false->aF [mapA b2 (fun x=>Value.int .i64 x) (Hist.endOf ((es[n].fQa,es[n].fXa)::ends)),mapA b1 (fun x=>Value.bool x) (fun x=>if x ∈ es[n].fHa::seen then some true else none),vE s es] h'->K s' h') ->
    hpv prog (Instr.lookup gV (.map (some b2)) (.int .i64 es[n].fQa) true) bL (fun (v40:Int × Bool) =>
     br (v40.2 && ((decide (v40.1 <= 0)) || (decide (es[n].fRa <= v40.1)))) (pa_ (false = Hist.may es z) [vE s es]) (
     hpu prog (Instr.mapUpdate dF (.map (some b1)) (.int .i64 es[n].fHa) (.bool true)) <|
     hpu prog (Instr.mapUpdate gV (.map (some b2)) (.int .i64 es[n].fQa) (.int .i64 es[n].fXa)) <|
     K (es[n].fRa,((n + 1:Nat):Int)))) h:=by
   intro hno K hK
   rw [if_neg hno] at he
   refine lookup_m (j:=0) mp_map_int_int s3 rfl ((Hist.endOf ends es[n].fQa).getD 0,(Hist.endOf ends es[n].fQa).isSome) ?_ ?_
   ·rw [if_pos rfl]; unfold bL
    cases Hist.endOf ends es[n].fQa <;> rfl
   ·have hst:((Hist.endOf ends es[n].fQa).isSome && ((decide ((Hist.endOf ends es[n].fQa).getD 0 <= 0)) || (decide (es[n].fRa <= (Hist.endOf ends es[n].fQa).getD 0)))) = Hist.stops ends es[n]:=by
     unfold Hist.stops
     cases Hist.endOf ends es[n].fQa <;> simp
    show br ((Hist.endOf ends es[n].fQa).isSome && ((decide ((Hist.endOf ends es[n].fQa).getD 0 <= 0)) || (decide (es[n].fRa <= (Hist.endOf ends es[n].fQa).getD 0)))) _ _ h
    rw [hst]
    refine aY (fun k2=>?_) (fun k2=>?_)
    ·rw [if_pos k2] at he
     exact aX he (ce (l:=[_,_]) s3)
    ·refine update_m (j:=1) (w:=true) ku s3 rfl rfl fun h4 s4=>?_
     refine update_m (j:=0) (w:=es[n].fXa) mp_map_int_int s4 rfl rfl fun h5 s5=>?_
     refine hK _ _ ⟨rfl,rfl⟩ k2 ?_
     have e1:(fun y=>if y = es[n].fQa then some es[n].fXa else Hist.endOf ends y) = Hist.endOf ((es[n].fQa,es[n].fXa)::ends):=by
      funext y
      unfold Hist.endOf
      by_cases hy:y = es[n].fQa
      ·subst hy; simp
      ·have:(es[n].fQa == y) = false:=by simpa using fun e=>hy e.symm
       simp [hy,this]
     have e2:(fun y=>if y = es[n].fHa then some true else if y ∈ seen then some true else none) = fun x=>if x ∈ es[n].fHa::seen then some true else none:=by
      funext y
      by_cases hy:y = es[n].fHa <;> simp [hy]
     rw [← e1,← e2]
     exact s5
  have go:¬ (eI es[n] z last = false\/(es[n].fHa > 0/\es[n].fHa ∈ seen))->∀ (s':Int × Int) h',s'.1 = es[n].fRa/\s'.2 = ((n + 1:Nat):Int)->Hist.stops ends es[n] = false->aF [mapA b2 (fun x=>Value.int .i64 x) (Hist.endOf ((es[n].fQa,es[n].fXa)::ends)),mapA b1 (fun x=>Value.bool x) (fun x=>if x ∈ es[n].fHa::seen then some true else none),vE s es] h' ->
    (∃ (n:Nat) (seen:List Int) (ends:List (Int × Int)),s'.2 = n/\n <= es.length/\Hist.mayFrom z (es.drop n) s'.1 seen ends = Hist.may es z/\aF [mapA b2 (fun x=>Value.int .i64 x) (Hist.endOf ends),mapA b1 (fun x=>Value.bool x) (fun x=>if x ∈ seen then some true else none),vE s es] h')/\es.length - s'.2.toNat < es.length - (n:Int).toNat:=by
   rintro hno ⟨u,w⟩ h' ⟨h4,h5⟩ hst s4
   simp only at h4 h5
   subst h4; subst h5
   rw [if_neg hno,if_neg (by rw [hst]; exact Bool.false_ne_true)] at he
   exact ⟨⟨n + 1,_,_,rfl,hlt,he,s4⟩,by simp; omega⟩
  rw [hw]
  refine aY (fun k2=>?_) (fun k2=>?_)
  ·rw [Bool.and_eq_true] at k2
   have k1:eI es[n] z last = true:=by simpa using k2.1
   have kp:es[n].fHa > 0:=by simpa using k2.2
   refine lookup_m (j:=1) ku s3 rfl (decide (es[n].fHa ∈ seen)) ?_ ?_
   ·rw [if_neg Bool.false_ne_true]; unfold aC
    by_cases hm:es[n].fHa ∈ seen <;> simp [hm]
   ·refine aY (fun k3=>?_) (fun k3=>?_)
    ·have hm:es[n].fHa ∈ seen:=of_decide_eq_true k3
     rw [if_pos (.inr ⟨kp,hm⟩)] at he
     exact aX he (ce (l:=[_,_]) s3)
    ·have hm:es[n].fHa ∉ seen:=of_decide_eq_false k3
     have hno:¬ (eI es[n] z last = false\/(es[n].fHa > 0/\es[n].fHa ∈ seen)):=by simp [k1,hm]
     exact rest hno _ (go hno)
  ·refine aY (fun k3=>?_) (fun k3=>?_)
   ·have k1:eI es[n] z last = false:=by simpa using k3
    rw [if_pos (.inl k1)] at he
    exact aX he (ce (l:=[_,_]) s3)
   ·have k1:eI es[n] z last = true:=by simpa using k3
    have kp:¬ es[n].fHa > 0:=by simp [k1] at k2; omega
    have hno:¬ (eI es[n] z last = false\/(es[n].fHa > 0/\es[n].fHa ∈ seen)):=by simp [k1]; intro hh; exact absurd hh kp
    exact rest hno _ (go hno)
 ·have:n = es.length:=by rw [hl] at k; simp at k; omega
  subst this
  rw [List.drop_length] at he
  exact aX he (ce (l:=[_,_]) s3)
end
section
open Go Mb
set_option linter.unusedVariables false
def dO (a2:Int) (a3:Int) (q22:Nat × Nat) (Rec9:(Sl × Int)->Hp->Prop) (s8:Sl × Int) (x49:av) (s22:Bool):Hp->Prop:=br s22 ( ld (q22.1,q22.2 + 4) cP fun x65=>cl prog gJ [(pv x65)] dK fun r66=>cl prog dx [(pv r66),(.int .i64 x49.fCa),(.agg (ai.C x49.fKa).toArray)] bj fun r72=>cl prog fS [(pv r66),(.int .i64 a2),(.int .i64 a3)] cA fun r77=>hpv prog (Instr.buildSlice pW 1 #[(0,(.agg (an.C r77.1).toArray))]) qo fun (v82:Sl)=>hpv prog (Builtin.append_ #[pW,pW] pW #[(sv s8.1),(sv v82)]) qo fun (v83:Sl)=>Rec9 (v83,(IntKind.i64.wrap (s8.2 + 1)))) ( Rec9 (s8.1,(IntKind.i64.wrap (s8.2 + 1))))
def kL (a2:Int) (a3:Int) (K:Sl->Hp->Prop) (q22:Nat × Nat) (r37:Sl) (Rec9:(Sl × Int)->Hp->Prop) (s8:Sl × Int):Hp->Prop:=br (decide (s8.2 < (r37.len:Int))) ( ix r37 s8.2 fun q41=>ld (q41.1,q41.2 + Int.toNat s8.2 * 1) (cI .i64) fun x42=>ld (q22.1,q22.2 + 0) cS fun x46=>ix x46 x42 fun q48=>ld (q48.1,q48.2 + Int.toNat x42 * 16) av.C fun x49=>br (((az x49.fKa).1) == 7) ( dO a2 a3 q22 Rec9 s8 x49 (((az x49.fKa).1) == 7)) ( br (((az x49.fKa).1) == 8) ( dO a2 a3 q22 Rec9 s8 x49 (((az x49.fKa).1) == 8)) ( br (((az x49.fKa).1) == 4) ( dO a2 a3 q22 Rec9 s8 x49 (((az x49.fKa).1) == 4)) ( dO a2 a3 q22 Rec9 s8 x49 (((az x49.fKa).1) == 5))))) ( K s8.1)
def pI (a0:Ptr) (a1:Int) (a2:Int) (a3:Int) (K:Sl->Hp->Prop):Hp->Prop:=nn a0 fun q22=>ld (q22.1,q22.2 + 4) cP fun x24=>cl prog fS [(pv x24),(.int .i64 a2),(.int .i64 a3)] cA fun r27=>hpv prog (Instr.buildSlice pW 1 #[(0,(.agg (an.C r27.1).toArray))]) qo fun (v31:Sl)=>ld (q22.1,q22.2 + 0) cS fun x35=>cl prog n_hist_Over [(sv x35),(.int .i64 a1)] cC fun r37=>Lp (kL a2 a3 K q22 r37) (v31,0)
theorem wP (a0:Ptr) (a1:Int) (a2:Int) (a3:Int) {K:Sl->Hp->Prop} {h:Hp} (H:pI a0 a1 a2 a3 K h):Ct prog lF #[(pv a0),(.int .i64 a1),(.int .i64 a2),(.int .i64 a3)] h fun v h'=>∃ r,v = qo r/\K r h':=ay [(pv a0),(.int .i64 a1),(.int .i64 a2),(.int .i64 a3)] func183 c c c fun _=>M<|O c<|M<|J c<|bG H fun q22 e1 H2=>p (aJ<|aN c<|ar e1)<|p (ae vY c)<|aa<|aW H2 oH c (fun _=>c) c fun x24 H3=>J c<|J c<|aa<|Z H3 en_89 fun r27 _ H4=>J c<|p (ak c c)<|p (ak c c)<|aa<|aM (l:=an.C (⟨0,0,0⟩:an)) ga c c fun b9=>aa<|aP (k:=0) (vs:=an.C r27.1) dP c c c c c c c<|O c<|M<|bh (bF (k:=0) fG c c c c) c<|aa<|aR H4 (bw (vs:=[(.agg (an.C r27.1).toArray)]) c) c fun v31 _ H5=>O c<|al<|M<|J (aN c<|ar e1)<|p (aJ c)<|p (ae fld_196_0 c)<|aa<|aW H5 sc_42 c (fun _=>c) c fun x35 H6=>J c<|aa<|Z H6 en_206 fun r37 _ H7=>p (dz c underlying39 c)<|J c<|ad<|aA<|bE (step:=kL a2 a3 K q22 r37) (fun s8=>[(0,(pv a0)),(2,(.int .i64 a2)),(3,(.int .i64 a3)),(11,(sv s8.1)),(37,(sv r37)),(38,(.int .i64 (r37.len:Int))),(39,(.int .i64 s8.2))]) (fun s8=>[]) H7 (.cons c<|.cons c<|.cons c<|.cons c<|.cons c<|.cons c<|.cons c<|.nil _) (.cons _ .slnil) fun Rec9 s8 _ H10=>M<|p (cx c c)<|ad<|al<|aw c H10 (fun k11 H12=>ao<|al<|aA<|M<|cm H12 fun q41 e13 h14 H15=>p (bq ia (aN c<|bb e13) c h14)<|aa<|aW H15 aZ c (fun _=>c) c fun x42 H16=>O c<|M<|J (aN c<|ar e1)<|p (aJ c)<|p (ae fld_196_0 c)<|aa<|aW H16 sc_42 c (fun _=>c) c fun x46 H17=>J c<|cm H17 fun q48 e18 h19 H20=>p (bq rg (aN c<|bb e18) c h19)<|aa<|gP H20 uH c (fun _=>c) c fun x49 H21=>aa<|aM (l:=av.C (⟨0,0,(⟨0,0,0,0,0⟩:ai),0,0,0,(⟨0,0⟩:ab),(⟨0,0,0,0⟩:am)⟩:av)) tN c c fun b14=>aa<|aP (k:=0) (vs:=av.C x49) inf_56 c c c c c c c<|ad<|M<|p (ae mX c)<|bh (bF (k:=0) fz c c c c) c<|aa<|cK (vs:=[(.agg (ai.C x49.fKa).toArray)]) (bz<|kg x49.fKa _) en_63 c c<|J c<|p (ak c c)<|p (ak c c)<|p (au c)<|O c<|M<|J c<|ad<|aA<|eG (dO a2 a3 q22 Rec9 s8 x49) (fun s22=>[(0,(pv a0)),(2,(.int .i64 a2)),(3,(.int .i64 a3)),(11,(sv s8.1)),(14,(.pointer (some ⟨b14,0,none⟩))),(37,(sv r37)),(38,(.int .i64 (r37.len:Int))),(39,(.int .i64 s8.2)),(57,(.bool s22))]) (fun s22=>[bx b14 56 (av.C x49)]) (M<|p (bQ c c)<|O c<|aw c H21 (fun k32 H33=>ao<|cM (((az x49.fKa).1) == 7) H33 (.cons c<|.cons c<|.cons c<|.cons c<|.cons c<|.cons c<|.cons c<|.cons c<|.cons c<|.nil _)<|.cons_cons _ .slnil) fun k32 H33=>M<|p (bQ c c)<|O c<|aw c H33 (fun k34 H35=>ao<|cM (((az x49.fKa).1) == 8) H35 (.cons c<|.cons c<|.cons c<|.cons c<|.cons c<|.cons c<|.cons c<|.cons c<|.cons c<|.nil _)<|.cons_cons _ .slnil) fun k34 H35=>M<|p (bQ c c)<|O c<|aw c H35 (fun k36 H37=>ao<|cM (((az x49.fKa).1) == 4) H37 (.cons c<|.cons c<|.cons c<|.cons c<|.cons c<|.cons c<|.cons c<|.cons c<|.cons c<|.nil _)<|.cons_cons _ .slnil) fun k36 H37=>ap<|p (bQ c c)<|O c<|cM (((az x49.fKa).1) == 5) H37 (.cons c<|.cons c<|.cons c<|.cons c<|.cons c<|.cons c<|.cons c<|.cons c<|.cons c<|.nil _)<|.cons_cons _ .slnil) fun s22 _ H23=>aw c H23 (fun k24 H25=>M<|J (aN c<|ar e1)<|p (aJ c)<|p (ae vY c)<|aa<|aW H25 oH c (fun _=>c) c fun x65 H26=>aa<|Z H26 en_184 fun r66 _ H27=>O c<|M<|J c<|p (ae oZ c)<|bh (bf (k:=0) aZ c c c) c<|p (ae mX c)<|bh (bF (k:=0) fz c c c c) c<|aa<|Z H27 en_72 fun r72 _ H28=>ad<|M<|J c<|J c<|J c<|aa<|Z H28 en_89 fun r77 _ H29=>J c<|p (ak c c)<|p (ak c c)<|aa<|aM (l:=an.C (⟨0,0,0⟩:an)) ga c c fun b18=>aa<|aP (k:=0) (vs:=an.C r77.1) dP c c c c c c c<|O c<|ap<|J c<|bh (bF (k:=0) fG c c c c) c<|aa<|aR H29 (bw (vs:=[(.agg (an.C r77.1).toArray)]) c) c fun v82 _ H30=>aa<|aR H30 (dE c c) c fun v83 _ H31=>O c<|ap<|p (bo c c)<|J c<|ad<|cN (v83,(IntKind.i64.wrap (s8.2 + 1))) H31 (.cons c<|.cons c<|.cons c<|.cons c<|.cons c<|.cons c<|.cons c<|.nil _)<|.cons _<|.cons _ .slnil) fun k24 H25=>ao<|ap<|p (bo c c)<|J c<|ad<|cN (s8.1,(IntKind.i64.wrap (s8.2 + 1))) H25 (.cons c<|.cons c<|.cons c<|.cons c<|.cons c<|.cons c<|.cons c<|.nil _)<|.cons _ .slnil) fun k11 H12=>bi<|M<|J c<|O c<|aj<|Y ⟨s8.1,c,H12⟩
def kM (a1:av) (K:Bool->Hp->Prop) (q18:Nat × Nat) (r50:Sl) (Rec13:(Bool × Bool × Int)->Hp->Prop) (s12:Bool × Bool × Int):Hp->Prop:=br (decide (s12.2.2 < (r50.len:Int))) ( ix r50 s12.2.2 fun q54=>ld (q54.1,q54.2 + Int.toNat s12.2.2 * 3) an.C fun x55=>Rec13 ((s12.1 || (!(ct x55.fBa (IntKind.i64.wrap a1.fKa.e0)))),(s12.2.1 || ((x55.fEa == a1.fTa.fEa) && (aQ a1.fTa.fBa x55.fBa))),(IntKind.i64.wrap (s12.2.2 + 1)))) ( br (a1.fYa.fWa == 7) ( K ((s12.1 && (a1.fYa.fVal == 0)) && (am.eqb a1.fTa (⟨0,0,0,0⟩:am)))) ( ld (q18.1,q18.2 + 4) cP fun x103=>cl prog gJ [(pv x103)] dK fun r104=>cl prog eW [(pv r104),(.int .i64 a1.fTa.fEa),(.agg (ai.C a1.fKa).toArray)] bj fun r110=>K (((s12.2.1 && (((a1.fTa.fCa == a1.fCa) && (a1.fTa.fOa == (IntKind.i64.wrap a1.fKa.e1))) && (ct a1.fTa.fBa (IntKind.i64.wrap a1.fKa.e0)))) && r110.2) && (ab.eqb r110.1 a1.fYa))))
def pJ (a0:Ptr) (a1:av) (K:Bool->Hp->Prop):Hp->Prop:=nn a0 fun q18=>ld (q18.1,q18.2 + 1 + 1) (cI .i64) fun x21=>cl prog gS [(.agg (ai.C a1.fKa).toArray),(.int .i64 x21)] bc fun r22=>br (r22 != 0) ( K ((ab.eqb a1.fYa (⟨r22,0⟩:ab)) && (am.eqb a1.fTa (⟨0,0,0,0⟩:am)))) ( cl prog lF [(.pointer (some ⟨q18.1,q18.2,none⟩)),(.int .i64 a1.fHa),(.int .i64 a1.fCa),(.int .i64 (IntKind.i64.wrap a1.fKa.e1))] qo fun r50=>Lp (kM a1 K q18 r50) (false,false,0))
theorem wQ (a0:Ptr) (a1:av) {K:Bool->Hp->Prop} {h:Hp} (H:pJ a0 a1 K h):Ct prog lG #[(pv a0),(.agg (av.C a1).toArray)] h fun v h'=>∃ r,v = aC r/\K r h':=ay [(pv a0),(.agg (av.C a1).toArray)] func140 c c c fun _=>M<|aa<|cO (l:=av.C a1) c c c fun b3=>O c<|al<|al<|bn (n:=9) [bx b3 56 (av.C a1)] cu c (.cons_cons _ .slnil)<|U 0 c (ae mX c)<|z_E 1 c (eo (k:=0) fz c c c c)<|U 2 c (ah c)<|gT H fun q18 e1 H2=>U 3 c (aJ<|aN c<|ar e1)<|U 4 c (ae fld_196_1 c)<|U 5 c (ae mZ c)<|bI (i:=6) (fun _ _ _ _ hh=>hh) H2 c (by kernel_rfl) aZ c (fun _=>c) c fun x21 H3=>G 7 c<|Z H3 en_110 fun r22 _ H4=>⟨.cons_cons _ .slnil,U 8 c (au c)<|aV (by kernel_rfl)<|M<|J c<|p (pt c c)<|ad<|aw c H4 (fun k5 H6=>M<|p (ae kv c)<|bh (bF (k:=0) cE c c c c) c<|J c<|p (ba c<|jl r22)<|p (v_eqA eqg_30 (eqr_30 9998 _ _) c c)<|J c<|V c c (aB _) (fun g7=>wv<|ae gm c)<|V c c (aB _) (fun g8=>cv<|bF (k:=0) hH (aD c g8) c c c)<|V c c (aB _) (fun g9=>wv<|ba (vs:=[]) c lN)<|V c c (aB _) (fun g10=>wv<|v_eqA eqg_54 (eqr_54 9998 _ _) (aD c g10)<|aD c g10)<|p (bT c c)<|O c<|aj<|Y ⟨((ab.eqb a1.fYa (⟨r22,0⟩:ab)) && (am.eqb a1.fTa (⟨0,0,0,0⟩:am))),c,H6⟩) fun k5 H6=>ao<|al<|bn (n:=10) [bx b3 56 (av.C a1)] cu c (.cons_cons _ .slnil)<|U 0 c (ae mX c)<|U 1 c (bB di c c (by decide))<|z_E 2 c (dk (k:=0) cy c c c)<|U 3 c (dT ⟨_,underlying22⟩ underlying3 c)<|U 4 c (ae mX c)<|U 5 c (bB di c c (by decide))<|z_E 6 c (dk (k:=0) cy c c c)<|U 7 c (dT ⟨_,underlying22⟩ underlying3 c)<|U 8 c (au c)<|U 9 c (au c)<|aV (by kernel_rfl)<|M<|p (au c)<|O c<|al<|M<|J (aN c<|ar e1)<|p (ae jd c)<|bh (bf (k:=0) aZ c c c) c<|p (ae oZ c)<|bh (bf (k:=0) aZ c c c) c<|J c<|aa<|Z H6 en_183 fun r50 _ H11=>p (dz c underlying240 c)<|J c<|ad<|aA<|bE (step:=kM a1 K q18 r50) (fun s12=>[(0,(pv a0)),(3,(.pointer (some ⟨b3,0,none⟩))),(6,(.int .i64 (IntKind.i64.wrap a1.fKa.e1))),(7,(.int .i64 (IntKind.i64.wrap a1.fKa.e0))),(8,(.bool s12.1)),(9,(.bool s12.2.1)),(50,(sv r50)),(51,(.int .i64 (r50.len:Int))),(52,(.int .i64 s12.2.2))]) (fun s12=>[bx b3 56 (av.C a1)]) H11 (.cons c<|.cons c<|.cons c<|.cons c<|.cons c<|.cons c<|.cons c<|.cons c<|.cons c<|.nil _) (.cons_cons _ .slnil) fun Rec13 s12 _ H14=>M<|p (cx c c)<|ad<|al<|aw c H14 (fun k15 H16=>ao<|al<|aA<|M<|cm H16 fun q54 e17 h18 H19=>p (bq slc_240 (aN c<|bb e17) c h18)<|aa<|gP H19 fG c (fun _=>c) c fun x55 H20=>aa<|aM (l:=an.C (⟨0,0,0⟩:an)) ga c c fun b11=>aa<|aP (k:=0) (vs:=an.C x55) dP c c c c c c c<|ad<|M<|J c<|J c<|V c c (aL _) (fun g21=>wv<|ae eM c)<|V c c (aL _) (fun g22=>cv<|bf (k:=0) aZ (aD c g22) c c)<|V c c (aL _) (fun g23=>wv<|ah c)<|cZ (vs:=[(.int .i64 x55.fBa),(.int .i64 (IntKind.i64.wrap a1.fKa.e0))]) c c c (aL _) (fun g24=>bz<|jO x55.fBa (IntKind.i64.wrap a1.fKa.e0) _) en_158 (fun g24=>aS (aD c g24)<|aS (aD c g24) bR) c<|V c c (aL _) (fun g25=>wv<|cr<|aD c g25)<|p (dp c c)<|O c<|ap<|J c<|J c<|V c c (aL _) (fun g26=>wv<|ae qV c)<|V c c (aL _) (fun g27=>cv<|bf (k:=0) aZ (aD c g27) c c)<|V c c (aL _) (fun g28=>wv<|ae gm c)<|V c c (aL _) (fun g29=>wv<|ae lJ<|aD c g29)<|V c c (aL _) (fun g30=>cv<|bf (k:=1) aZ (aD c g30) c c)<|V c c (aL _) (fun g31=>wv<|bQ (aD c g31)<|aD c g31)<|V c c (aL _) (fun g32=>wv<|ah<|aD c g32)<|V c c (fM _ _) (fun g33=>wv<|ae gm c)<|V c c (fM _ _) (fun g34=>wv<|ae qY<|aD c g34)<|V c c (fM _ _) (fun g35=>cv<|bf (k:=1) aZ (aD c g35) c c)<|V c c (fM _ _) (fun g36=>wv<|ae eM c)<|V c c (fM _ _) (fun g37=>cv<|bf (k:=0) aZ (aD c g37) c c)<|cZ (vs:=[(.int .i64 a1.fTa.fBa),(.int .i64 x55.fBa)]) c c c (fM _ _) (fun g38=>bz<|db a1.fTa.fBa x55.fBa _) mJ (fun g38=>aS (aD c g38)<|aS (aD c g38) bR) c<|V c c (aL _) (fun g39=>wv<|bT (aD c g39)<|aN c<|xu g39)<|p (dp c c)<|O c<|ap<|p (bo c c)<|J c<|ad<|cN ((s12.1 || (!(ct x55.fBa (IntKind.i64.wrap a1.fKa.e0)))),(s12.2.1 || ((x55.fEa == a1.fTa.fEa) && (aQ a1.fTa.fBa x55.fBa))),(IntKind.i64.wrap (s12.2.2 + 1))) H20 (.cons c<|.cons c<|.cons c<|.cons c<|.cons c<|.cons c<|.cons c<|.cons c<|.cons c<|.nil _)<|.cons _<|.cons_cons _ .slnil) fun k15 H16=>bi<|al<|M<|p (ae kv c)<|p (ae kx c)<|bh (bf (k:=0) oG c c c) c<|p (bQ c c)<|ad<|aw c H16 (fun k40 H41=>M<|J c<|J c<|V c c (aB _) (fun g42=>wv<|ae kv c)<|V c c (aB _) (fun g43=>wv<|ae fld_30_1<|aD c g43)<|V c c (aB _) (fun g44=>cv<|bf (k:=0) cy (aD c g44) c c)<|V c c (aB _) (fun g45=>wv<|bQ (aD c g45) c)<|p (bT c c)<|J c<|V c c (aB _) (fun g46=>wv<|ae gm c)<|V c c (aB _) (fun g47=>cv<|bF (k:=0) hH (aD c g47) c c c)<|V c c (aB _) (fun g48=>wv<|ba (vs:=[]) c lN)<|V c c (aB _) (fun g49=>wv<|v_eqA eqg_54 (eqr_54 9998 _ _) (aD c g49)<|aD c g49)<|p (bT c c)<|O c<|aj<|Y ⟨((s12.1 && (a1.fYa.fVal == 0)) && (am.eqb a1.fTa (⟨0,0,0,0⟩:am))),c,H41⟩) fun k40 H41=>ao<|al<|bn (n:=17) [bx b3 56 (av.C a1)] cu c (.cons_cons _ .slnil)<|U 0 c (ah<|aN c<|ar e1)<|U 1 c (aJ c)<|U 2 c (ae vY c)<|U 5 c (ae gm c)<|U 6 c (ae lJ c)<|z_E 7 c (dk (k:=0) aZ c c c)<|U 8 c (ae mX c)<|z_E 9 c (eo (k:=0) fz c c c c)<|bI (i:=3) (fun _ _ _ _ hh=>hh) H41 c (by kernel_rfl) oH c (fun _=>c) c fun x103 H50=>jE (i:=4) (j:=14) (by kernel_rfl) (cF c c<|Z H50 en_184 fun r104 _ H52=>⟨.cons_cons _ .slnil,jE (i:=10) (j:=14) (by kernel_rfl) (cF c c<|Z H52 uY fun r110 _ H54=>⟨.cons_cons _ .slnil,U 11 c (ah c)<|U 12 c (ak c c)<|U 13 c (ak c c)<|G 14 c<|aM (l:=ab.C (⟨0,0⟩:ab)) de c c fun b12=>⟨.cons _<|.cons_cons _ .slnil,G 15 c<|aP (k:=0) (vs:=ab.C r110.1) bO c c c c c c c ⟨.cons _<|.cons_cons _ .slnil,U 16 c (au c)<|aV (by kernel_rfl)<|M<|p (ae gm c)<|p (ae kw c)<|bh (bf (k:=1) aZ c c c) c<|p (ae oZ c)<|bh (bf (k:=1) aZ c c c) c<|p (bQ c c)<|J c<|V c c (aB _) (fun g55=>wv<|ae gm c)<|V c c (aB _) (fun g56=>wv<|ae mY<|aD c g56)<|V c c (aB _) (fun g57=>cv<|bf (k:=1) aZ (aD c g57) c c)<|V c c (aB _) (fun g58=>wv<|ah c)<|V c c (aB _) (fun g59=>wv<|bQ (aD c g59)<|aD c g59)<|p (bT c c)<|J c<|V c c (aB _) (fun g60=>wv<|ae gm c)<|V c c (aB _) (fun g61=>wv<|ae qY<|aD c g61)<|V c c (aB _) (fun g62=>cv<|bf (k:=1) aZ (aD c g62) c c)<|V c c (aB _) (fun g63=>wv<|ah c)<|cZ (vs:=[(.int .i64 a1.fTa.fBa),(.int .i64 (IntKind.i64.wrap a1.fKa.e0))]) c c c (aB _) (fun g64=>bz<|jO a1.fTa.fBa (IntKind.i64.wrap a1.fKa.e0) _) en_158 (fun g64=>aS (aD c g64)<|aS (aD c g64) bR) c<|p (bT c c)<|O c<|M<|J c<|J c<|V c c (aB _) (fun g65=>wv<|ah c)<|p (bT c c)<|J c<|V c c (aB _) (fun g66=>wv<|ah c)<|p (bT c c)<|J c<|V c c (aB _) (fun g67=>cv<|bF (k:=0) cE c c c c)<|V c c (aB _) (fun g68=>wv<|ae kv c)<|V c c (aB _) (fun g69=>cv<|bF (k:=1) cE (aD c g69) c c c)<|V c c (aB _) (fun g70=>wv<|v_eqA eqg_30 (eqr_30 9998 _ _) (aD c g70)<|aD c g70)<|p (bT c c)<|O c<|aj<|Y ⟨(((s12.2.1 && (((a1.fTa.fCa == a1.fCa) && (a1.fTa.fOa == (IntKind.i64.wrap a1.fKa.e1))) && (ct a1.fTa.fBa (IntKind.i64.wrap a1.fKa.e0)))) && r110.2) && (ab.eqb r110.1 a1.fYa)),c,H54⟩⟩⟩⟩)<|cF c c<|aM (l:=ab.C (⟨0,0⟩:ab)) de c c fun b12=>⟨.cons _<|.cons_cons _ .slnil,G 10 c<|Z H52 uY fun r110 _ H54=>⟨.cons _<|.cons_cons _ .slnil,U 11 c (ah c)<|U 12 c (ak c c)<|U 13 c (ak c c)<|G 15 c<|aP (k:=0) (vs:=ab.C r110.1) bO c c c c c c c ⟨.cons _<|.cons_cons _ .slnil,U 16 c (au c)<|aV (by kernel_rfl)<|M<|p (ae gm c)<|p (ae kw c)<|bh (bf (k:=1) aZ c c c) c<|p (ae oZ c)<|bh (bf (k:=1) aZ c c c) c<|p (bQ c c)<|J c<|V c c (aB _) (fun g55=>wv<|ae gm c)<|V c c (aB _) (fun g56=>wv<|ae mY<|aD c g56)<|V c c (aB _) (fun g57=>cv<|bf (k:=1) aZ (aD c g57) c c)<|V c c (aB _) (fun g58=>wv<|ah c)<|V c c (aB _) (fun g59=>wv<|bQ (aD c g59)<|aD c g59)<|p (bT c c)<|J c<|V c c (aB _) (fun g60=>wv<|ae gm c)<|V c c (aB _) (fun g61=>wv<|ae qY<|aD c g61)<|V c c (aB _) (fun g62=>cv<|bf (k:=1) aZ (aD c g62) c c)<|V c c (aB _) (fun g63=>wv<|ah c)<|cZ (vs:=[(.int .i64 a1.fTa.fBa),(.int .i64 (IntKind.i64.wrap a1.fKa.e0))]) c c c (aB _) (fun g64=>bz<|jO a1.fTa.fBa (IntKind.i64.wrap a1.fKa.e0) _) en_158 (fun g64=>aS (aD c g64)<|aS (aD c g64) bR) c<|p (bT c c)<|O c<|M<|J c<|J c<|V c c (aB _) (fun g65=>wv<|ah c)<|p (bT c c)<|J c<|V c c (aB _) (fun g66=>wv<|ah c)<|p (bT c c)<|J c<|V c c (aB _) (fun g67=>cv<|bF (k:=0) cE c c c c)<|V c c (aB _) (fun g68=>wv<|ae kv c)<|V c c (aB _) (fun g69=>cv<|bF (k:=1) cE (aD c g69) c c c)<|V c c (aB _) (fun g70=>wv<|v_eqA eqg_30 (eqr_30 9998 _ _) (aD c g70)<|aD c g70)<|p (bT c c)<|O c<|aj<|Y ⟨(((s12.2.1 && (((a1.fTa.fCa == a1.fCa) && (a1.fTa.fOa == (IntKind.i64.wrap a1.fKa.e1))) && (ct a1.fTa.fBa (IntKind.i64.wrap a1.fKa.e0)))) && r110.2) && (ab.eqb r110.1 a1.fYa)),c,H54⟩⟩⟩⟩⟩)<|cF c c<|aM (l:=ab.C (⟨0,0⟩:ab)) de c c fun b12=>⟨.cons _<|.cons_cons _ .slnil,G 4 c<|Z H50 en_184 fun r104 _ H52=>⟨.cons _<|.cons_cons _ .slnil,G 10 c<|Z H52 uY fun r110 _ H53=>⟨.cons _<|.cons_cons _ .slnil,U 11 c (ah c)<|U 12 c (ak c c)<|U 13 c (ak c c)<|G 15 c<|aP (k:=0) (vs:=ab.C r110.1) bO c c c c c c c ⟨.cons _<|.cons_cons _ .slnil,U 16 c (au c)<|aV (by kernel_rfl)<|M<|p (ae gm c)<|p (ae kw c)<|bh (bf (k:=1) aZ c c c) c<|p (ae oZ c)<|bh (bf (k:=1) aZ c c c) c<|p (bQ c c)<|J c<|V c c (aB _) (fun g54=>wv<|ae gm c)<|V c c (aB _) (fun g55=>wv<|ae mY<|aD c g55)<|V c c (aB _) (fun g56=>cv<|bf (k:=1) aZ (aD c g56) c c)<|V c c (aB _) (fun g57=>wv<|ah c)<|V c c (aB _) (fun g58=>wv<|bQ (aD c g58)<|aD c g58)<|p (bT c c)<|J c<|V c c (aB _) (fun g59=>wv<|ae gm c)<|V c c (aB _) (fun g60=>wv<|ae qY<|aD c g60)<|V c c (aB _) (fun g61=>cv<|bf (k:=1) aZ (aD c g61) c c)<|V c c (aB _) (fun g62=>wv<|ah c)<|cZ (vs:=[(.int .i64 a1.fTa.fBa),(.int .i64 (IntKind.i64.wrap a1.fKa.e0))]) c c c (aB _) (fun g63=>bz<|jO a1.fTa.fBa (IntKind.i64.wrap a1.fKa.e0) _) en_158 (fun g63=>aS (aD c g63)<|aS (aD c g63) bR) c<|p (bT c c)<|O c<|M<|J c<|J c<|V c c (aB _) (fun g64=>wv<|ah c)<|p (bT c c)<|J c<|V c c (aB _) (fun g65=>wv<|ah c)<|p (bT c c)<|J c<|V c c (aB _) (fun g66=>cv<|bF (k:=0) cE c c c c)<|V c c (aB _) (fun g67=>wv<|ae kv c)<|V c c (aB _) (fun g68=>cv<|bF (k:=1) cE (aD c g68) c c c)<|V c c (aB _) (fun g69=>wv<|v_eqA eqg_30 (eqr_30 9998 _ _) (aD c g69)<|aD c g69)<|p (bT c c)<|O c<|aj<|Y ⟨(((s12.2.1 && (((a1.fTa.fCa == a1.fCa) && (a1.fTa.fOa == (IntKind.i64.wrap a1.fKa.e1))) && (ct a1.fTa.fBa (IntKind.i64.wrap a1.fKa.e0)))) && r110.2) && (ab.eqb r110.1 a1.fYa)),c,H53⟩⟩⟩⟩⟩⟩
def rK (a0:Ptr) (a1:av) (K:Bool->Hp->Prop):Hp->Prop:=br (a1.fYa.fWa == 0) ( nn a0 fun q13=>ld (q13.1,q13.2 + 1 + 1) (cI .i64) fun x16=>cl prog gS [(.agg (ai.C a1.fKa).toArray),(.int .i64 x16)] bc fun r17=>br (r17 == 0) ( K (a1.fTa.fBa != 0)) ( K false)) ( K false)
theorem sim_judge_judge_well (a0:Ptr) (a1:av) {K:Bool->Hp->Prop} {h:Hp} (H:rK a0 a1 K h):Ct prog ny #[(pv a0),(.agg (av.C a1).toArray)] h fun v h'=>∃ r,v = aC r/\K r h':=ay [(pv a0),(.agg (av.C a1).toArray)] func141 c c c fun _=>M<|aa<|cO (l:=av.C a1) c c c fun b3=>O c<|al<|bn (n:=22) [bx b3 56 (av.C a1)] cu c (.cons_cons _ .slnil)<|U 0 c (ae kv c)<|U 1 c (ae kx c)<|z_E 2 c (dk (k:=0) oG c c c)<|U 3 c (bQ c c)<|U 4 c (ah c)<|pd H (fun k1 H2=>z_n 5 c (D k1) (ve<|ae mX c)<|z_n 6 c (D k1) (eo (k:=0) fz c c c c)<|z_n 7 c (D k1) (ve<|ah c)<|gT H2 fun q13 e3 H4=>z_n 8 c (D k1) (ve<|aJ<|aN c<|ar e3)<|z_n 9 c (D k1) (ve<|ae fld_196_1 c)<|z_n 10 c (D k1) (ve<|ae mZ c)<|mt (i:=11) (fun _ _ _ _ hh=>hh) H4 c (by kernel_rfl) c c c (D k1) aZ c (fun _=>c) c fun x16 H5=>eva_1 (i:=12) (by kernel_rfl)<|way_on c c c c (D k1)<|Z H5 en_110 fun r17 _ H6=>⟨.cons_cons _ .slnil,z_n 13 c (D k1) (ve<|bQ c c)<|U 14 c (aT c k1 c)<|U 15 c (ah c)<|pd H6 (fun k7 H8=>z_n 16 c (D k7) (ve<|ae gm c)<|z_n 17 c (D k7) (ve<|ae qY c)<|z_n 18 c (D k7) (dk (k:=0) aZ c c c)<|z_n 19 c (D k7) (ve<|pt c c)<|U 20 c (aT c k7 c)<|U 21 c (au c)<|aV (by kernel_rfl)<|aj<|Y ⟨(a1.fTa.fBa != 0),c,H8⟩) fun k7 H8=>I 16 c (aU k7)<|I 17 c (aU k7)<|I 18 c (aU k7)<|I 19 c (aU k7)<|U 20 c (aq c k7 c)<|U 21 c (au c)<|aV (by kernel_rfl)<|aj<|Y ⟨false,c,H8⟩⟩) fun k1 H2=>I 5 c (aU k1)<|I 6 c (aU k1)<|I 7 c (aU k1)<|I 8 c (aU k1)<|I 9 c (aU k1)<|I 10 c (aU k1)<|I 11 c (aU k1)<|I 12 c (aU k1)<|I 13 c (aU k1)<|U 14 c (aq c k1 c)<|U 15 c (ah c)<|I 16 c c<|I 17 c c<|I 18 c c<|I 19 c c<|U 20 c (aq c c c)<|U 21 c (au c)<|aV (by kernel_rfl)<|aj<|Y ⟨false,c,H2⟩
def sm (b25:Nat) (Rec8:Int->Hp->Prop) (s7:Int) (x36:av) (s22:Unit):Hp->Prop:=cl prog ny [(.pointer (some ⟨b25,0,none⟩)),(.agg (av.C x36).toArray)] aC fun r49=>br r49 ( ld (b25,4) cP fun x53=>cl prog eW [(pv x53),(.int .i64 x36.fTa.fEa),(.agg (ai.C x36.fKa).toArray)] bj fun r59=>Rec8 (IntKind.i64.wrap (s7 + 1))) ( Rec8 (IntKind.i64.wrap (s7 + 1)))
def sk (K:(Int × Bool)->Hp->Prop) (b25:Nat) (Rec8:Int->Hp->Prop) (s7:Int) (x32:Int) (x36:av) (s29:Bool):Hp->Prop:=br s29 ( K (x32,false)) ( sm b25 Rec8 s7 x36 ())
def xp (a0:Sl) (a2:Bool) (a3:Bool) (K:(Int × Bool)->Hp->Prop) (b25:Nat) (r27:Sl) (Rec8:Int->Hp->Prop) (s7:Int):Hp->Prop:=br (decide (s7 < (r27.len:Int))) ( ix r27 s7 fun q31=>ld (q31.1,q31.2 + Int.toNat s7 * 1) (cI .i64) fun x32=>ix a0 x32 fun q35=>ld (q35.1,q35.2 + Int.toNat x32 * 16) av.C fun x36=>br (ft x36) ( br a3 ( cl prog lG [(.pointer (some ⟨b25,0,none⟩)),(.agg (av.C x36).toArray)] aC fun r43=>sk K b25 Rec8 s7 x32 x36 (!r43)) ( sk K b25 Rec8 s7 x32 x36 false)) ( ld (b25,4) cP fun x64=>cl prog dx [(pv x64),(.int .i64 x36.fCa),(.agg (ai.C x36.fKa).toArray)] bj fun r69=>br (a2 && ((!r69.2) || (!(ab.eqb r69.1 x36.fYa)))) ( K (x32,false)) ( Rec8 (IntKind.i64.wrap (s7 + 1))))) ( K ((-1),true))
def sh_judge_run (a0:Sl) (a1:aE) (a2:Bool) (a3:Bool) (K:(Int × Bool)->Hp->Prop):Hp->Prop:=cl prog xk [(sv a0),(.agg (aE.C a1).toArray)] aC fun r18=>br (!r18) ( K ((-1),false)) ( cl prog nO [(.agg (aE.C a1).toArray)] dK fun r23=>nw dl (kE.C (⟨a0,a1,r23⟩:kE)) fun b25=>cl prog oS [(sv a0)] cC fun r27=>Lp (xp a0 a2 a3 K b25 r27) 0)
theorem sim_judge_run (a0:Sl) (a1:aE) (a2:Bool) (a3:Bool) {K:(Int × Bool)->Hp->Prop} {h:Hp} (H:sh_judge_run a0 a1 a2 a3 K h):Ct prog uw #[(sv a0),(.agg (aE.C a1).toArray),(.bool a2),(.bool a3)] h fun v h'=>∃ r,v = bL r/\K r h':=ay [(sv a0),(.agg (aE.C a1).toArray),(.bool a2),(.bool a3)] func99 c c c fun _=>M<|aa<|cO (l:=aE.C a1) c c c fun b5=>p (au c)<|O c<|al<|M<|J c<|bh (bF (k:=0) pO c c c c) c<|aa<|Z H en_25 fun r18 _ H1=>p (cr c)<|ad<|aw c H1 (fun k2 H3=>M<|p (au c)<|O c<|aj<|bv (bN c (cc c)<|cc c) ⟨((-1),false),c,H3⟩) fun k2 H3=>ao<|al<|bn (n:=7) [bx b5 25 (aE.C a1)] cu c (.cons_cons _ .slnil)<|U 0 c (ah c)<|z_E 1 c (eo (k:=0) pO c c c c)<|z_E 2 c (eo (k:=0) pO c c c c)<|G 3 c<|Z H3 en_56 fun r23 _ H4=>⟨.cons_cons _ .slnil,U 4 c (ba c<|build_196_0_1_2 a0 a1 r23)<|G 5 c<|hY c c c H4 fun b25 _ H5=>⟨.cons_cons _ .slnil,U 6 c (au c)<|aV (by kernel_rfl)<|al<|M<|J c<|aa<|Z H5 en_44 fun r27 _ H6=>p (dz c underlying39 c)<|J c<|ad<|aA<|bE (step:=xp a0 a2 a3 K b25 r27) (fun s7=>[(0,(sv a0)),(2,(.bool a2)),(3,(.bool a3)),(10,(.pointer (some ⟨b25,0,none⟩))),(27,(sv r27)),(28,(.int .i64 (r27.len:Int))),(29,(.int .i64 s7))]) (fun s7=>[]) H6 (.cons c<|.cons c<|.cons c<|.cons c<|.cons c<|.cons c<|.cons c<|.nil _) (.cons _ .slnil) fun Rec8 s7 _ H9=>M<|p (cx c c)<|ad<|al<|aw c H9 (fun k10 H11=>ao<|al<|aA<|M<|cm H11 fun q31 e12 h13 H14=>p (bq ia (aN c<|bb e12) c h13)<|aa<|aW H14 aZ c (fun _=>c) c fun x32 H15=>O c<|M<|J c<|J c<|cm H15 fun q35 e16 h17 H18=>p (bq rg (aN c<|bb e16) c h17)<|aa<|gP H18 uH c (fun _=>c) c fun x36 H19=>aa<|aM (l:=av.C (⟨0,0,(⟨0,0,0,0,0⟩:ai),0,0,0,(⟨0,0⟩:ab),(⟨0,0,0,0⟩:am)⟩:av)) tN c c fun b13=>aa<|aP (k:=0) (vs:=av.C x36) inf_56 c c c c c c c<|ad<|al<|M<|bh (bF (k:=0) uH c c c c) c<|aa<|cK (vs:=[(.agg (av.C x36).toArray)]) (bz<|ct_judge_user x36 _) en_139 c c<|ad<|aw c H19 (fun k20 H21=>eG (sm b25 Rec8 s7 x36) (fun s22=>[(0,(sv a0)),(2,(.bool a2)),(3,(.bool a3)),(10,(.pointer (some ⟨b25,0,none⟩))),(13,(.pointer (some ⟨b13,0,none⟩))),(27,(sv r27)),(28,(.int .i64 (r27.len:Int))),(29,(.int .i64 s7))]) (fun s22=>[bx b13 56 (av.C x36)]) (eG (sk K b25 Rec8 s7 x32 x36) (fun s29=>[(0,(sv a0)),(2,(.bool a2)),(3,(.bool a3)),(10,(.pointer (some ⟨b25,0,none⟩))),(12,(.int .i64 x32)),(13,(.pointer (some ⟨b13,0,none⟩))),(27,(sv r27)),(28,(.int .i64 (r27.len:Int))),(29,(.int .i64 s7)),(45,(.bool s29))]) (fun s29=>[bx b13 56 (av.C x36)]) (ap<|J c<|J c<|V c c (aB _) (fun g33=>wv<|ah c)<|V c c (aB _) (fun g34=>cv<|bF (k:=0) uH c c c c)<|bS H21 (fun k36 H37=>F (D k36)<|fZ H37 en_140 (aS (aD c k36)<|aS (aD c k36) bR) c fun r43 _ H38=>F (D k36)<|R (cr c)<|p (aT c k36 c)<|ad<|cM (!r43) H38 (.cons c<|.cons c<|.cons c<|.cons c<|.cons c<|.cons c<|.cons c<|.cons c<|.cons c<|.cons c<|.nil _)<|.cons_cons _ .slnil) fun k36 H37=>W (aU k36)<|W (aU k36)<|p (aq c k36 c)<|ad<|cM false H37 (.cons c<|.cons c<|.cons c<|.cons c<|.cons c<|.cons c<|.cons c<|.cons c<|.cons c<|.cons c<|.nil _)<|.cons_cons _ .slnil) fun s29 _ H30=>aw c H30 (fun k31 H32=>M<|J c<|p (au c)<|O c<|aj<|bv (bN c (cc c)<|cc c) ⟨(x32,false),c,H32⟩) fun k31 H32=>ao<|cM () H32 (.cons c<|.cons c<|.cons c<|.cons c<|.cons c<|.cons c<|.cons c<|.cons c<|.nil _)<|.cons_cons _ .slnil) fun s22 _ H23=>al<|M<|J c<|bh (bF (k:=0) uH c c c c) c<|aa<|Z H23 en_141 fun r49 _ H24=>ad<|aw c H24 (fun k25 H26=>bn (n:=10) [bx b13 56 (av.C x36)] cu c (.cons_cons _ .slnil)<|U 0 c (ah c)<|U 1 c (aJ c)<|U 2 c (ae vY c)<|U 4 c (ae gm c)<|U 5 c (ae lJ c)<|z_E 6 c (dk (k:=0) aZ c c c)<|U 7 c (ae mX c)<|z_E 8 c (eo (k:=0) fz c c c c)<|bI (i:=3) (fun _ _ _ _ hh=>hh) H26 c (by kernel_rfl) oH c (fun _=>c) c fun x53 H27=>G 9 c<|Z H27 uY fun r59 _ H28=>⟨.cons_cons _ .slnil,aV (by kernel_rfl)<|bi<|ap<|p (bo c c)<|J c<|ad<|cN (IntKind.i64.wrap (s7 + 1)) H28 (.cons c<|.cons c<|.cons c<|.cons c<|.cons c<|.cons c<|.cons c<|.nil _)<|.cons _ .slnil⟩) fun k25 H26=>ao<|bi<|ap<|p (bo c c)<|J c<|ad<|cN (IntKind.i64.wrap (s7 + 1)) H26 (.cons c<|.cons c<|.cons c<|.cons c<|.cons c<|.cons c<|.cons c<|.nil _)<|.cons _ .slnil) fun k20 H21=>ao<|al<|bn (n:=15) [bx b13 56 (av.C x36)] cu c (.cons_cons _ .slnil)<|U 0 c (ah c)<|U 1 c (aJ c)<|U 2 c (ae vY c)<|U 4 c (ae oZ c)<|z_E 5 c (dk (k:=0) aZ c c c)<|U 6 c (ae mX c)<|z_E 7 c (eo (k:=0) fz c c c c)<|bI (i:=3) (fun _ _ _ _ hh=>hh) H21 c (by kernel_rfl) oH c (fun _=>c) c fun x64 H39=>jE (i:=8) (j:=12) (by kernel_rfl) (cF c c<|Z H39 en_72 fun r69 _ H41=>⟨.cons_cons _ .slnil,U 9 c (ah c)<|U 10 c (ak c c)<|U 11 c (ak c c)<|G 12 c<|aM (l:=ab.C (⟨0,0⟩:ab)) de c c fun b14=>⟨.cons _<|.cons_cons _ .slnil,G 13 c<|aP (k:=0) (vs:=ab.C r69.1) bO c c c c c c c ⟨.cons _<|.cons_cons _ .slnil,U 14 c (au c)<|aV (by kernel_rfl)<|M<|J c<|J c<|V c c (aB _) (fun g42=>wv<|ah c)<|V c c (aB _) (fun g43=>wv<|cr<|aD c g43)<|V c c (aB _) (fun g44=>wv<|ah<|aD c g44)<|V c c (dU _ _) (fun g45=>cv<|bF (k:=0) cE c c c c)<|V c c (dU _ _) (fun g46=>wv<|ae kv c)<|V c c (dU _ _) (fun g47=>cv<|bF (k:=1) cE (aD c g47) c c c)<|V c c (dU _ _) (fun g48=>wv<|v_neA eqg_30 (eqr_30 9998 _ _) (aD c g48)<|aD c g48)<|V c c (aB _) (fun g49=>wv<|dp (aD c g49)<|aN c<|xu g49)<|p (bT c c)<|ad<|aw c H41 (fun k50 H51=>M<|J c<|p (au c)<|O c<|aj<|bv (bN c (cc c)<|cc c) ⟨(x32,false),c,H51⟩) fun k50 H51=>ao<|ap<|p (bo c c)<|J c<|ad<|cN (IntKind.i64.wrap (s7 + 1)) H51 (.cons c<|.cons c<|.cons c<|.cons c<|.cons c<|.cons c<|.cons c<|.nil _)<|.cons _<|.cons _ .slnil⟩⟩⟩)<|cF c c<|aM (l:=ab.C (⟨0,0⟩:ab)) de c c fun b14=>⟨.cons _<|.cons_cons _ .slnil,G 8 c<|Z H39 en_72 fun r69 _ H41=>⟨.cons _<|.cons_cons _ .slnil,U 9 c (ah c)<|U 10 c (ak c c)<|U 11 c (ak c c)<|G 13 c<|aP (k:=0) (vs:=ab.C r69.1) bO c c c c c c c ⟨.cons _<|.cons_cons _ .slnil,U 14 c (au c)<|aV (by kernel_rfl)<|M<|J c<|J c<|V c c (aB _) (fun g42=>wv<|ah c)<|V c c (aB _) (fun g43=>wv<|cr<|aD c g43)<|V c c (aB _) (fun g44=>wv<|ah<|aD c g44)<|V c c (dU _ _) (fun g45=>cv<|bF (k:=0) cE c c c c)<|V c c (dU _ _) (fun g46=>wv<|ae kv c)<|V c c (dU _ _) (fun g47=>cv<|bF (k:=1) cE (aD c g47) c c c)<|V c c (dU _ _) (fun g48=>wv<|v_neA eqg_30 (eqr_30 9998 _ _) (aD c g48)<|aD c g48)<|V c c (aB _) (fun g49=>wv<|dp (aD c g49)<|aN c<|xu g49)<|p (bT c c)<|ad<|aw c H41 (fun k50 H51=>M<|J c<|p (au c)<|O c<|aj<|bv (bN c (cc c)<|cc c) ⟨(x32,false),c,H51⟩) fun k50 H51=>ao<|ap<|p (bo c c)<|J c<|ad<|cN (IntKind.i64.wrap (s7 + 1)) H51 (.cons c<|.cons c<|.cons c<|.cons c<|.cons c<|.cons c<|.cons c<|.nil _)<|.cons _<|.cons _ .slnil⟩⟩⟩) fun k10 H11=>bi<|M<|p (au c)<|O c<|aj<|bv (bN c (cc c)<|cc c) ⟨((-1),true),c,H11⟩⟩⟩
def sh_judge_Linear (a0:Sl) (a1:aE) (K:(Int × Bool)->Hp->Prop):Hp->Prop:=cl prog uw [(sv a0),(.agg (aE.C a1).toArray),(.bool true),(.bool false)] bL fun r8=>K (r8.1,r8.2)
theorem sim_judge_Linear (a0:Sl) (a1:aE) {K:(Int × Bool)->Hp->Prop} {h:Hp} (H:sh_judge_Linear a0 a1 K h):Ct prog oQ #[(sv a0),(.agg (aE.C a1).toArray)] h fun v h'=>∃ r,v = bL r/\K r h':=ay [(sv a0),(.agg (aE.C a1).toArray)] func47 c c c fun _=>M<|aa<|cO (l:=aE.C a1) c c c fun b3=>p (au c)<|O c<|M<|J c<|bh (bF (k:=0) pO c c c c) c<|aa<|Z H en_99 fun r8 _ H1=>p (ak c c)<|p (ak c c)<|p (au c)<|O c<|aj<|bv (bN c (cc c)<|cc c) ⟨(r8.1,r8.2),c,H1⟩
def sh_judge_Access (a0:Sl) (a1:aE) (K:(Int × Bool)->Hp->Prop):Hp->Prop:=cl prog uw [(sv a0),(.agg (aE.C a1).toArray),(.bool false),(.bool true)] bL fun r8=>K (r8.1,r8.2)
theorem sim_judge_Access (a0:Sl) (a1:aE) {K:(Int × Bool)->Hp->Prop} {h:Hp} (H:sh_judge_Access a0 a1 K h):Ct prog oR #[(sv a0),(.agg (aE.C a1).toArray)] h fun v h'=>∃ r,v = bL r/\K r h':=ay [(sv a0),(.agg (aE.C a1).toArray)] func48 c c c fun _=>M<|aa<|cO (l:=aE.C a1) c c c fun b3=>p (au c)<|O c<|M<|J c<|bh (bF (k:=0) pO c c c c) c<|aa<|Z H en_99 fun r8 _ H1=>p (ak c c)<|p (ak c c)<|p (au c)<|O c<|aj<|bv (bN c (cc c)<|cc c) ⟨(r8.1,r8.2),c,H1⟩
def sh_judge_Right (a0:Sl) (a1:aE) (K:Bool->Hp->Prop):Hp->Prop:=cl prog oQ [(sv a0),(.agg (aE.C a1).toArray)] bL fun r12=>cl prog oR [(sv a0),(.agg (aE.C a1).toArray)] bL fun r18=>K (r12.2 && r18.2)
theorem sim_judge_Right (a0:Sl) (a1:aE) {K:Bool->Hp->Prop} {h:Hp} (H:sh_judge_Right a0 a1 K h):Ct prog qt #[(sv a0),(.agg (aE.C a1).toArray)] h fun v h'=>∃ r,v = aC r/\K r h':=ay [(sv a0),(.agg (aE.C a1).toArray)] func19 c c c fun _=>M<|aa<|cO (l:=aE.C a1) c c c fun b3=>O c<|M<|J c<|bh (bF (k:=0) pO c c c c) c<|aa<|Z H en_47 fun r12 _ H1=>J c<|p (ak c c)<|p (ak c c)<|p (au c)<|O c<|M<|J c<|bh (bF (k:=0) pO c c c c) c<|aa<|Z H1 en_48 fun r18 _ H2=>J c<|p (ak c c)<|p (ak c c)<|p (au c)<|O c<|M<|J c<|J c<|V c c (aB _) (fun g3=>wv<|ah c)<|p (bT c c)<|O c<|aj<|Y ⟨(r12.2 && r18.2),c,H2⟩
end
section
open Go Mb
abbrev vG (s:Sl) (xs:List Pte):As:=vec t_api_Pte 3 an.C s xs
theorem pte_one (p:Pte):dI p.C = true:=rfl
namespace fLa
def ev (es:List bm) (i:Int):bm:=es.getD i.toNat Hist.ev00
def takes (e:bm):Bool:=(az e.fKa).1 == 7 || (az e.fKa).1 == 8 || (az e.fKa).1 == 4 || (az e.fKa).1 == 5
def fHb (k:PK) (es:List bm) (env pg:Int):List Int->List Pte
 | []=>[]
 | i::l=>if takes (ev es i) = true then (PK.pte (PK.do_ k (ev es i).fCa (ev es i).fKa).2 env pg).1::fHb k es env pg l else fHb k es env pg l
def others (k:PK) (es:List bm) (at_ env pg:Int):List Pte:=(PK.pte k env pg).1::fHb k es env pg (Hist.over es at_)
def faults (e:bm) (l:List Pte):Bool:=l.any fun p=>!(ct p.fBa (IntKind.i64.wrap e.fKa.e0))
def goes (e:bm) (l:List Pte):Bool:=l.any fun p=>(p.fEa == e.fTa.fEa) && (aQ e.fTa.fBa p.fBa)
def own (e:bm):Bool:=((e.fTa.fCa == e.fCa) && (e.fTa.fOa == (IntKind.i64.wrap e.fKa.e1))) && (ct e.fTa.fBa (IntKind.i64.wrap e.fKa.e0))
def access (k:PK) (es:List bm) (s:fD) (e:bm):Bool :=
 if Word.check e.fKa s.fIa ≠ 0 then (ab.eqb e.fYa ⟨Word.check e.fKa s.fIa,0⟩) && (am.eqb e.fTa iB)
 else if e.fYa.fWa = 7 then (faults e (others k es e.fHa e.fCa (IntKind.i64.wrap e.fKa.e1)) && (e.fYa.fVal == 0)) && (am.eqb e.fTa iB)
 else ((goes e (others k es e.fHa e.fCa (IntKind.i64.wrap e.fKa.e1)) && own e) && (PK.touch k e.fTa.fEa e.fKa).1.2) && (ab.eqb (PK.touch k e.fTa.fEa e.fKa).1.1 e.fYa)
def well (s:fD) (e:bm):Bool:=(e.fYa.fWa == 0) && (Word.check e.fKa s.fIa == 0) && (e.fTa.fBa != 0)
def runFrom (es:List bm) (s:fD) (lin acc:Bool):PK->List Int->Int × Bool
 | _,[]=>(-1,true)
 | k,i::l =>
  if ft (ev es i) = true then (if acc = true/\access k es s (ev es i) = false then (i,false) else runFrom es s lin acc (if well s (ev es i) = true then (PK.touch k (ev es i).fTa.fEa (ev es i).fKa).2 else k) l)
  else if lin = true/\((PK.do_ k (ev es i).fCa (ev es i).fKa).1.2 = false\/ab.eqb (PK.do_ k (ev es i).fCa (ev es i).fKa).1.1 (ev es i).fYa = false) then (i,false)
  else runFrom es s lin acc (PK.do_ k (ev es i).fCa (ev es i).fKa).2 l
def run (es:List bm) (s:fD) (lin acc:Bool):Int × Bool:=if Hist.may es s = true then runFrom es s lin acc (PK.new s) (Hist.order es) else (-1,false)
def linear (es:List bm) (s:fD):Int × Bool:=run es s true false
def accesses (es:List bm) (s:fD):Int × Bool:=run es s false true
def right (es:List bm) (s:fD):Bool:=(linear es s).2 && (accesses es s).2
theorem ev_nat {es:List bm} {n:Nat} (h:n < es.length):ev es n = es[n]:=by simp [ev,h]
theorem othersFrom_app (k:PK) (es:List bm) (env pg:Int) (i:Int):∀ l,fHb k es env pg (l++[i]) = fHb k es env pg l++(if takes (ev es i) = true then [(PK.pte (PK.do_ k (ev es i).fCa (ev es i).fKa).2 env pg).1] else [])
 | []=>by simp only [List.nil_append,fHb]
 | j::l=>by
  simp only [List.cons_append,fHb,othersFrom_app k es env pg i l]
  split <;> simp
theorem othersFrom_len (k:PK) (es:List bm) (env pg:Int):∀ l,(fHb k es env pg l).length <= l.length
 | []=>Nat.le_refl _
 | i::l=>by unfold fHb; have:=othersFrom_len k es env pg l; split <;> simp <;> omega
end fLa
abbrev jc (s:Sl) (z:fD) (pk:Ptr):List Value:=[sv s,.int .i64 z.fVa,.int .i64 z.fIa,.int .i64 z.fAb,pv pk]
theorem sp_judge_others (jb:Nat) (s:Sl) (z:fD) (pk:Ptr) (es:List bm) (k:PK) (a env pg:Int) (hb:es.length < 2 ^ 38) :
  Sp prog lF [pv (some (jb,0)),.int .i64 a,.int .i64 env,.int .i64 pg] qo [blk jb dl (jc s z pk),vE s es,bp pk k] (fun r=>aF [vG r (fLa.others k es a env pg),blk jb dl (jc s z pk),vE s es,bp pk k]):=by
 intro h s0
 refine wP _ _ _ _ ?_
 unfold pI
 refine cD (bk pk s0 (i:=0) rfl rfl rfl ?_)
 refine bP (rU pk k env pg) (i:=2) rfl s0 fun r h1 hr s1=>?_
 subst hr
 refine fy (τ:=Pte) [(PK.pte k env pg).1] (val:=fun x=>.agg x.C.toArray) (enc:=an.C) el_Sapi_Pte jp (fun _=>rfl) s1 rfl rfl (by simp) fun v h2 s2=>?_
 refine bk s s2 (i:=1) rfl rfl rfl ?_
 refine wh (sp_hist_Over s es a hb) (i:=2) rfl s2 fun r37 h3 s3=>?_
 have hrl:=(cj (j:=0) s3 rfl).1
 have hol:=Hist.placesFrom_len (fun e=>decide (e.fRa <= a) && (e.fHa == 0 || decide (e.fHa > a))) es 0
 have hol':(Hist.over es a).length <= es.length:=hol
 refine Lp.intro (fun (y:Sl × Int) h=>∃ n:Nat,y.2 = n/\n <= (Hist.over es a).length/\aF [vI r37 (Hist.over es a),vG y.1 ((PK.pte k env pg).1::fLa.fHb k es env pg ((Hist.over es a).take n)),blk jb dl (jc s z pk),vE s es,bp pk k] h) (fun (y:Sl × Int) _=>(Hist.over es a).length - y.2.toNat) ⟨0,rfl,Nat.zero_le _,s3⟩ ?_
 rintro ⟨y,i⟩ h ⟨n,rfl,hn,s4⟩
 unfold kL
 refine aY (fun d=>?_) (fun d=>?_)
 ·have hlt:n < (Hist.over es a).length:=by rw [hrl] at d; have:=of_decide_eq_true d; simp at this; exact this
  have hw:IntKind.i64.wrap ((n:Int) + 1) = ((n + 1:Nat):Int):=by rw [bM (by omega) (by omega)]; rfl
  have ht:(Hist.over es a).take (n + 1) = (Hist.over es a).take n++[(Hist.over es a)[n]]:=by simp
  have hin:=Hist.places_in (List.getElem_mem hlt)
  have hes:=(cj (j:=3) s4 rfl).1
  obtain ⟨m,hm⟩:=Int.eq_ofNat_of_zero_le hin.1
  have hml:m < es.length:=by omega
  have hev:fLa.ev es (Hist.over es a)[n] = es[m]:=by rw [hm,fLa.ev_nat hml]
  have happ:=fLa.othersFrom_app k es env pg (Hist.over es a)[n] ((Hist.over es a).take n)
  rw [hev] at happ
  have hfl:=fLa.othersFrom_len k es env pg ((Hist.over es a).take n)
  simp at hfl
  refine dy s4 (j:=0) rfl (by omega) (by show (n:Int) < _; omega) fun q hq=>?_
  refine eB (j:=0) (i:=n) (k:=0) (Hist.over es a)[n] (dh _) s4 rfl hq (by simp) (aH hlt) (by simp) ?_
  rw [hm]
  refine bk s s4 (i:=2) rfl rfl rfl ?_
  refine dy s4 (j:=3) rfl (by omega) (by omega) fun q2 hq2=>?_
  refine eB (j:=3) (i:=m) (k:=0) es[m] mI s4 rfl hq2 rfl (aH hml) (by simp) ?_
  have j1:∀ b,b = fLa.takes es[m]->dO env pg (jb,0) (fun s' h'=>(∃ n:Nat,s'.2 = n/\n <= (Hist.over es a).length/\aF [vI r37 (Hist.over es a),vG s'.1 ((PK.pte k env pg).1::fLa.fHb k es env pg ((Hist.over es a).take n)),blk jb dl (jc s z pk),vE s es,bp pk k] h')/\(Hist.over es a).length - s'.2.toNat < (Hist.over es a).length - (n:Int).toNat) (y,(n:Int)) es[m] b h:=by
   intro b hb2
   unfold dO
   rw [hb2,hw]
   refine aY (fun d2=>?_) (fun d2=>?_)
   ·refine bk pk s4 (i:=2) rfl rfl rfl ?_
    refine wh (uM pk k) (i:=4) rfl s4 fun r66 h5 s5=>?_
    refine bP (jL r66 k es[m].fCa es[m].fKa) (i:=0) rfl s5 fun r h6 hr s6=>?_
    refine bP (rU r66 _ env pg) (i:=0) rfl s6 fun r h7 hr s7=>?_
    subst hr
    refine kC (τ:=Pte) (i:=2) (enc:=an.C) (val:=fun x=>.agg x.C.toArray) el_Sapi_Pte jp pte_one (fun _=>rfl) (by omega) rfl rfl s7 rfl (by simp; omega) (by simp; omega) fun v h8 s8=>?_
    refine ⟨⟨n + 1,rfl,hlt,?_⟩,by simp; omega⟩
    rw [ht,happ,if_pos d2]
    exact ce (l:=[bp r66 _]) s8
   ·refine ⟨⟨n + 1,rfl,hlt,?_⟩,by simp; omega⟩
    rw [ht,happ,if_neg (by rw [d2]; exact Bool.false_ne_true),List.append_nil]
    exact s4
  refine aY (fun c=>j1 _ (by unfold fLa.takes; rw [c]; rfl)) (fun c=>?_)
  refine aY (fun c2=>j1 _ (by unfold fLa.takes; rw [c,c2]; rfl)) (fun c2=>?_)
  refine aY (fun c3=>j1 _ (by unfold fLa.takes; rw [c,c2,c3]; rfl)) (fun c3=>j1 _ (by unfold fLa.takes; rw [c,c2,c3]; rfl))
 ·have:n = (Hist.over es a).length:=by rw [hrl] at d; have:=of_decide_eq_false d; simp at this; omega
  subst this
  rw [List.take_length] at s4
  exact ce (l:=[vI r37 (Hist.over es a)]) s4
theorem any_snoc {α:Type} (f:α->Bool) (l:List α) (x:α):(l++[x]).any f = (l.any f || f x):=by simp
theorem sp_judge_access (jb:Nat) (s:Sl) (z:fD) (pk:Ptr) (es:List bm) (k:PK) (e:bm) (hb:es.length < 2 ^ 38) :
  Sp prog lG [pv (some (jb,0)),.agg e.C.toArray] aC [blk jb dl (jc s z pk),vE s es,bp pk k] (fun r=>pa_ (r = fLa.access k es z e) [blk jb dl (jc s z pk),vE s es,bp pk k]):=by
 intro h s0
 refine wQ _ _ ?_
 unfold pJ
 refine cD (bk z.fIa s0 (i:=0) rfl rfl rfl ?_)
 refine tL (ji e.fKa z.fIa) s0 fun r h1 hr s1=>?_
 subst hr
 refine aY (fun d=>?_) (fun d=>?_)
 ·exact aX (by unfold fLa.access; rw [if_pos (by simpa using d)]) s1
 ·have d':¬ Word.check e.fKa z.fIa ≠ 0:=by simpa using d
  refine cQ [0,0,0] (sp_judge_others jb s z pk es k e.fHa e.fCa (IntKind.i64.wrap e.fKa.e1) hb) s1 rfl fun r50 h2 s2=>?_
  have s3:=dB s2
  have hrl:=(cj (j:=0) s3 rfl).1
  have hol':(Hist.over es e.fHa).length <= es.length:=Hist.placesFrom_len _ es 0
  have hfl:=fLa.othersFrom_len k es e.fCa (IntKind.i64.wrap e.fKa.e1) (Hist.over es e.fHa)
  have hll:(fLa.others k es e.fHa e.fCa (IntKind.i64.wrap e.fKa.e1)).length < 2 ^ 39:=by unfold fLa.others; simp; omega
  generalize hL:fLa.others k es e.fHa e.fCa (IntKind.i64.wrap e.fKa.e1) = L at *
  refine Lp.intro (fun (y:Bool × Bool × Int) h=>∃ n:Nat,y.2.2 = n/\n <= L.length/\y.1 = fLa.faults e (L.take n)/\y.2.1 = fLa.goes e (L.take n)/\aF [vG r50 L,blk jb dl (jc s z pk),vE s es,bp pk k] h) (fun (y:Bool × Bool × Int) _=>L.length - y.2.2.toNat) ⟨0,rfl,Nat.zero_le _,rfl,rfl,s3⟩ ?_
  rintro ⟨f,g,i⟩ h ⟨n,rfl,hn,hf,hg,s4⟩
  simp only at hf hg
  unfold kM
  refine aY (fun d2=>?_) (fun d2=>?_)
  ·have hlt:n < L.length:=by rw [hrl] at d2; have:=of_decide_eq_true d2; simp at this; exact this
   have hw:IntKind.i64.wrap ((n:Int) + 1) = ((n + 1:Nat):Int):=by rw [bM (by omega) (by omega)]; rfl
   have ht:L.take (n + 1) = L.take n++[L[n]]:=by simp
   refine dy s4 (j:=0) rfl (by show (0:Int) <= n; omega) (by show (n:Int) < _; omega) fun q hq=>?_
   refine eB (j:=0) (i:=n) (k:=0) L[n] jp s4 rfl hq rfl (aH hlt) (by simp) ?_
   rw [hw]
   refine ⟨⟨n + 1,rfl,hlt,?_,?_,s4⟩,by simp; omega⟩
   ·unfold fLa.faults; rw [ht,any_snoc]; show (f || _) = _; rw [hf]; rfl
   ·unfold fLa.goes; rw [ht,any_snoc]; show (g || _) = _; rw [hg]; rfl
  ·have:n = L.length:=by rw [hrl] at d2; have:=of_decide_eq_false d2; simp at this; omega
   subst this
   rw [List.take_length] at hf hg
   have s5:=ce (l:=[vG r50 L]) s4
   refine aY (fun d3=>?_) (fun d3=>?_)
   ·refine aX ?_ s5
    unfold fLa.access
    rw [if_neg d',if_pos (by simpa using d3),hL,← hf]
   ·refine bk pk s4 (i:=1) rfl rfl rfl ?_
    refine wh (uM pk k) (i:=2) rfl s5 fun r104 h6 s6=>?_
    refine bP (ou r104 k e.fTa.fEa e.fKa) (i:=0) rfl s6 fun r h7 hr s7=>?_
    subst hr
    refine aX ?_ (ce (l:=[bp r104 _]) s7)
    unfold fLa.access
    rw [if_neg d',if_neg (by simpa using d3),hL,← hg]
    rfl
theorem sp_judge_well (jb:Nat) (s:Sl) (z:fD) (pk:Ptr) (e:bm) :
  Sp prog ny [pv (some (jb,0)),.agg e.C.toArray] aC [blk jb dl (jc s z pk)] (fun r=>pa_ (r = fLa.well z e) [blk jb dl (jc s z pk)]):=by
 intro h s0
 refine sim_judge_judge_well _ _ ?_
 unfold rK
 refine aY (fun d=>?_) (fun d=>?_)
 ·refine cD (bk z.fIa s0 (i:=0) rfl rfl rfl ?_)
  refine tL (ji e.fKa z.fIa) s0 fun r h1 hr s1=>?_
  subst hr
  refine aY (fun d2=>?_) (fun d2=>?_)
  ·exact aX (by unfold fLa.well; rw [d,d2]; rfl) s1
  ·exact aX (by unfold fLa.well; rw [d,d2]; rfl) s1
 ·exact aX (by unfold fLa.well; rw [d]; rfl) s0
abbrev OrdOk (s:Sl) (es:List bm):Prop:=Sp prog oS [sv s] cC [vE s es] (fun r=>aF [vI r (Hist.order es),vE s es])
theorem order_in {es:List bm} {x:Int} (h:x ∈ Hist.order es):0 <= x/\x < es.length:=Hist.places_in ((Hist.isort_perm _ _).subset h)
theorem order_len (es:List bm):(Hist.order es).length <= es.length:=by
 have h1:=(Hist.isort_perm (Hist.eff es) (Hist.effs es)).length_eq
 have h2:=Hist.placesFrom_len (fun e=>decide (e.fHa > 0)) es 0
 unfold Hist.order; rw [h1]; exact h2
theorem sp_judge_run (s:Sl) (es:List bm) (z:fD) (lin acc:Bool) (hz:PK.sized z = true) (hb:es.length < 2 ^ 38) (ho:Hist.Apart es->OrdOk s es) :
  Sp prog uw [sv s,.agg z.C.toArray,.bool lin,.bool acc] bL [vE s es] (fun r=>pa_ (r = fLa.run es z lin acc) [vE s es]):=by
 intro h s0
 refine sim_judge_run _ _ _ _ ?_
 unfold sh_judge_run
 refine bP (sp_hist_May s es z hb) (i:=0) rfl s0 fun r h1 hr s1=>?_
 subst hr
 refine aY (fun d=>?_) (fun d=>?_)
 ·exact aX (by unfold fLa.run; rw [if_neg (by simpa using d)]) s1
 ·have d':Hist.may es z = true:=by simpa using d
  have er:fLa.run es z lin acc = fLa.runFrom es z lin acc (PK.new z) (Hist.order es):=if_pos d'
  rw [er]
  refine mu (rV z hz) s1 fun pk h2 s2=>?_
  refine pw s2 fun b25 h3 s3=>?_
  refine wh (ho (Hist.may_apart d')) (i:=2) rfl s3 fun r27 h4 s4=>?_
  have hol:=order_len es
  have hrl:=(cj (j:=0) s4 rfl).1
  refine Lp.intro (fun (i:Int) h=>∃ (n:Nat) (k:PK),i = n/\n <= (Hist.order es).length/\fLa.runFrom es z lin acc k ((Hist.order es).drop n) = fLa.runFrom es z lin acc (PK.new z) (Hist.order es)/\aF [vI r27 (Hist.order es),blk b25 dl (jc s z pk),bp pk k,vE s es] h) (fun (i:Int) _=>(Hist.order es).length - i.toNat) ⟨0,_,rfl,Nat.zero_le _,rfl,s4⟩ ?_
  rintro i h ⟨n,k,rfl,hn,he,s5⟩
  have fin:∀ h,aF [vI r27 (Hist.order es),blk b25 dl (jc s z pk),bp pk k,vE s es] h->aF [vE s es] h:=fun h s=>ce (l:=[_,_,_]) s
  unfold xp
  refine aY (fun d2=>?_) (fun d2=>?_)
  ·have hlt:n < (Hist.order es).length:=by rw [hrl] at d2; simpa using d2
   have hw:IntKind.i64.wrap ((n:Int) + 1) = ((n + 1:Nat):Int):=by rw [bM (by omega) (by omega)]; rfl
   have hin:=order_in (List.getElem_mem hlt)
   have hes:=(cj (j:=3) s5 rfl).1
   obtain ⟨m,hm⟩:=Int.eq_ofNat_of_zero_le hin.1
   have hml:m < es.length:=by omega
   have hev:fLa.ev es (Hist.order es)[n] = es[m]:=by rw [hm,fLa.ev_nat hml]
   rw [List.drop_eq_getElem_cons hlt,fLa.runFrom,hev] at he
   refine dy s5 (j:=0) rfl (by omega) (by omega) fun q hq=>?_
   refine eB (j:=0) (i:=n) (k:=0) (Hist.order es)[n] (dh _) s5 rfl hq (by simp) (aH hlt) (by simp) ?_
   rw [hm]
   refine dy s5 (j:=3) rfl (by omega) (by omega) fun q2 hq2=>?_
   refine eB (j:=3) (i:=m) (k:=0) es[m] mI s5 rfl hq2 rfl (aH hml) (by simp) ?_
   have hmi:((m:Int),false) = ((Hist.order es)[n],false):=by rw [hm]
   refine aY (fun d3=>?_) (fun d3=>?_)
   ·rw [if_pos d3] at he
    have j1:∀ h,(acc = true/\fLa.access k es z es[m] = false) = False->aF [vI r27 (Hist.order es),blk b25 dl (jc s z pk),bp pk k,vE s es] h->sm b25 (fun s' h'=>(∃ (n:Nat) (k:PK),s' = n/\n <= (Hist.order es).length/\fLa.runFrom es z lin acc k ((Hist.order es).drop n) = fLa.runFrom es z lin acc (PK.new z) (Hist.order es)/\aF [vI r27 (Hist.order es),blk b25 dl (jc s z pk),bp pk k,vE s es] h')/\(Hist.order es).length - s'.toNat < (Hist.order es).length - (n:Int).toNat) (n:Int) es[m] () h:=by
     intro h hno s6
     rw [if_neg (by rw [hno]; exact not_false)] at he
     unfold sm
     refine bP (sp_judge_well b25 s z pk es[m]) (i:=1) rfl s6 fun r h7 hr s7=>?_
     subst hr
     rw [hw]
     refine aY (fun d4=>?_) (fun d4=>?_)
     ·rw [if_pos d4] at he
      refine bk pk s7 (i:=1) rfl rfl rfl ?_
      refine bP (ou pk k es[m].fTa.fEa es[m].fKa) (i:=2) rfl s7 fun r h8 hr s8=>?_
      exact ⟨⟨n + 1,_,rfl,hlt,he,s8⟩,by simp; omega⟩
     ·rw [if_neg (by rw [d4]; exact Bool.false_ne_true)] at he
      exact ⟨⟨n + 1,_,rfl,hlt,he,s7⟩,by simp; omega⟩
    unfold sk
    refine aY (fun d4=>?_) (fun d4=>?_)
    ·refine cQ [1,2,1] (sp_judge_access b25 s z pk es k es[m] hb) s5 rfl fun r h6 s6=>?_
     obtain ⟨hr,s7⟩:=bt.1 s6
     subst hr
     have s8:aF [vI r27 (Hist.order es),blk b25 dl (jc s z pk),bp pk k,vE s es] h6:=bd [3,0,1] s7 rfl
     refine aY (fun d5=>?_) (fun d5=>?_)
     ·rw [if_pos ⟨d4,by simpa using d5⟩] at he
      exact aX (by rw [← he,hm]) (fin _ s8)
     ·exact j1 h6 (by simp; intro _; simpa using d5) s8
    ·refine dn rfl ?_
     exact j1 h (by rw [d4]; simp) s5
   ·rw [if_neg (by rw [d3]; exact Bool.false_ne_true)] at he
    refine bk pk s5 (i:=1) rfl rfl rfl ?_
    refine bP (jL pk k es[m].fCa es[m].fKa) (i:=2) rfl s5 fun r h6 hr s6=>?_
    subst hr
    refine aY (fun d4=>?_) (fun d4=>?_)
    ·have d4':lin = true/\((PK.do_ k es[m].fCa es[m].fKa).1.2 = false\/ab.eqb (PK.do_ k es[m].fCa es[m].fKa).1.1 es[m].fYa = false):=by simpa using d4
     rw [if_pos d4'] at he
     exact aX (by rw [← he,hm]) (ce (l:=[_,_,_]) s6)
    ·have d4':¬ (lin = true/\((PK.do_ k es[m].fCa es[m].fKa).1.2 = false\/ab.eqb (PK.do_ k es[m].fCa es[m].fKa).1.1 es[m].fYa = false)):=by simpa using d4
     rw [if_neg d4'] at he
     rw [hw]
     exact ⟨⟨n + 1,_,rfl,hlt,he,s6⟩,by simp; omega⟩
  ·have:n = (Hist.order es).length:=by rw [hrl] at d2; simp at d2; omega
   subst this
   rw [List.drop_length] at he
   exact aX he (fin h s5)
section
variable (s:Sl) (es:List bm) (z:fD) (hz:PK.sized z = true) (hb:es.length < 2 ^ 38) (ho:Hist.Apart es->OrdOk s es)
include hz hb ho
theorem sp_judge_Linear:Sp prog oQ [sv s,.agg z.C.toArray] bL [vE s es] (fun r=>pa_ (r = fLa.linear es z) [vE s es]):=by
 intro h s0
 refine sim_judge_Linear _ _ ?_
 unfold sh_judge_Linear
 exact bP (sp_judge_run s es z true false hz hb ho) (i:=0) rfl s0 fun r h1 hr s1=>aX hr s1
theorem sp_judge_Access:Sp prog oR [sv s,.agg z.C.toArray] bL [vE s es] (fun r=>pa_ (r = fLa.accesses es z) [vE s es]):=by
 intro h s0
 refine sim_judge_Access _ _ ?_
 unfold sh_judge_Access
 exact bP (sp_judge_run s es z false true hz hb ho) (i:=0) rfl s0 fun r h1 hr s1=>aX hr s1
theorem sp_judge_Right:Sp prog qt [sv s,.agg z.C.toArray] aC [vE s es] (fun r=>pa_ (r = fLa.right es z) [vE s es]):=by
 intro h s0
 refine sim_judge_Right _ _ ?_
 unfold sh_judge_Right
 refine bP (sp_judge_Linear s es z hz hb ho) (i:=0) rfl s0 fun r h1 hr s1=>?_
 subst hr
 exact bP (sp_judge_Access s es z hz hb ho) (i:=0) rfl s1 fun r h2 hr s2=>aX (by rw [hr]; rfl) s2
end
end
section
open Go Mb
structure Ev1 (k:KK) (e:bm):Prop where
 c0:0 <= e.fQa
 c1:e.fQa < k.p.s.fVa
 v0:0 <= e.fCa
 v1:e.fCa < k.p.s.fIa
 b0:1 <= e.fRa
 b1:e.fRa <= k.now
 st:(e.fHa = 0/\e.fXa = 0)\/(e.fRa < e.fHa/\e.fXa = e.fHa/\e.fHa <= k.now)
structure jm (k:KK):Prop where
 one:∀ (i:Nat) e,k.events[i]? = some e->Ev1 k e
 up:∀ (i j:Nat) d e,i < j->k.events[i]? = some d->k.events[j]? = some e->d.fRa < e.fRa
 ef:∀ (i j:Nat) d e,k.events[i]? = some d->k.events[j]? = some e->d.fHa > 0->d.fHa = e.fHa->i = j
 co:∀ (i j:Nat) d e,i < j->k.events[i]? = some d->k.events[j]? = some e->d.fQa = e.fQa->d.fXa > 0/\d.fXa < e.fRa
 call:∀ (c:Nat) x,k.calls[c]? = some (some x)->∃ n:Nat,x.fat = n/\∃ e,k.events[n]? = some e/\e.fQa = c/\e.fCa = x.fGa/\e.fKa = x.fc/\e.fHa = 0
 open_:∀ (i:Nat) e,k.events[i]? = some e->e.fHa = 0->∃ x,k.calls[e.fQa.toNat]? = some (some x)/\x.fat = i
theorem evinv_new (s:fD):jm (KK.new s):=by
 have hn:∀ i:Nat,(KK.new s).events[i]? = none:=fun i=>by simp [KK.new]
 refine ⟨fun i e h=>?_,fun i j d e _ h _=>?_,fun i j d e h _ _ _=>?_,fun i j d e _ h _ _=>?_,fun c x h=>absurd h (se s c x),fun i e h _=>?_⟩ <;> (rw [hn] at h; cases h)
theorem Ev1.later {k k':KK} {e:bm} (h:Ev1 k e) (hs:k'.p.s = k.p.s) (hn:k.now <= k'.now):Ev1 k' e :=
 ⟨h.c0,by rw [hs]; exact h.c1,h.v0,by rw [hs]; exact h.v1,h.b0,by have:=h.b1; omega,by rcases h.st with a | a; exact .inl a; exact .inr ⟨a.1,a.2.1,by omega⟩⟩
theorem jm.same {k k':KK} (E:jm k) (he:k'.events = k.events) (hs:k'.p.s = k.p.s) (hn:k.now <= k'.now) (h1:∀ (c:Nat) x,k'.calls[c]? = some (some x)->∃ y,k.calls[c]? = some (some y)/\y.fat = x.fat/\y.fGa = x.fGa/\y.fc = x.fc) (h2:∀ (c:Nat) x,k.calls[c]? = some (some x)->∃ y,k'.calls[c]? = some (some y)/\y.fat = x.fat):jm k':=by
 refine ⟨fun i e h=>?_,fun i j d e hij h h'=>?_,fun i j d e h h'=>?_,fun i j d e hij h h'=>?_,fun c x hx=>?_,fun i e h h0=>?_⟩
 ·rw [he] at h; exact (E.one i e h).later hs hn
 ·rw [he] at h h'; exact E.up i j d e hij h h'
 ·rw [he] at h h'; exact E.ef i j d e h h'
 ·rw [he] at h h'; exact E.co i j d e hij h h'
 ·obtain ⟨y,hy,e1,e2,e3⟩:=h1 c x hx
  obtain ⟨n,hn1,e,g1,g2,g3,g4,g5⟩:=E.call c y hy
  exact ⟨n,e1 ▸ hn1,e,by rw [he]; exact g1,g2,e2 ▸ g3,e3 ▸ g4,g5⟩
 ·rw [he] at h
  obtain ⟨x,hx,e1⟩:=E.open_ i e h h0
  obtain ⟨y,hy,e2⟩:=h2 _ x hx
  exact ⟨y,hy,e2.trans e1⟩
theorem jm.begin {k:KK} (E:jm k) (ok:KK.Ok k) (hn:k.now < 2 ^ 40) (core env:Int) (c:da):jm (KK.begin_ k core env c).2:=by
 unfold KK.begin_
 split
 ·exact E
 ·rename_i h
  simp only [not_or,Bool.not_eq_false,Bool.not_eq_true] at h
  obtain ⟨hi,hb,h0,h1⟩:=h
  obtain ⟨n,rfl,hlt⟩:=lf hi
  have hnone:k.calls[n]? = some none:=by
   cases hx:k.calls[n]? with
   | none=>rw [List.getElem?_eq_getElem hlt] at hx; cases hx
   | some o =>
    cases o with
    | none=>rfl
    | some x =>
     exfalso
     unfold KK.busy at hb
     rw [hi] at hb
     have:KK.call k n = some x:=by unfold KK.call; rw [Int.toNat_natCast,List.getD_eq_getElem?_getD,hx]; rfl
     rw [this] at hb; cases hb
  have hw:=wrapN ok.n0 hn
  have hcl:=ok.cl
  rw [hw]
  have get:∀ (i:Nat) e,(k.events++[KK.ev0 n env c (k.now + 1)])[i]? = some e->(i < k.events.length/\k.events[i]? = some e)\/(i = k.events.length/\e = KK.ev0 n env c (k.now + 1)):=by
   intro i e he
   rcases Nat.lt_or_ge i k.events.length with h | h
   ·rw [List.getElem?_append_left h] at he; exact .inl ⟨h,he⟩
   ·rw [List.getElem?_append_right h] at he
    by_cases e0:i - k.events.length = 0
    ·rw [e0] at he
     exact .inr ⟨by omega,by simpa using he.symm⟩
    ·rw [List.getElem?_eq_none (by simp; omega)] at he; cases he
  have mk:∀ e,Ev1 k e->Ev1 { k with now:=k.now + 1,events:=k.events++[KK.ev0 n env c (k.now + 1)],calls:=k.calls.set n (some ⟨k.events.length,env,c,false,0⟩) } e:=fun e h=>h.later rfl (by show k.now <= k.now + 1; omega)
  have cget:∀ (a:Nat) x,(k.calls.set n (some (⟨k.events.length,env,c,false,0⟩:KC)))[a]? = some (some x)->(a = n/\x = ⟨k.events.length,env,c,false,0⟩)\/(a ≠ n/\k.calls[a]? = some (some x)):=by
   intro a x hx
   rw [List.getElem?_set] at hx
   by_cases e:n = a
   ·rw [if_pos e,if_pos hlt] at hx
    exact .inl ⟨e.symm,by simpa using hx.symm⟩
   ·rw [if_neg e] at hx; exact .inr ⟨fun h=>e h.symm,hx⟩
  refine ⟨fun i e he=>?_,fun i j d e hij hd he=>?_,fun i j d e hd he hp heq=>?_,fun i j d e hij hd he hc=>?_,fun a x hx=>?_,fun i e he h00=>?_⟩
  ·rcases get i e he with ⟨_,h⟩ | ⟨_,rfl⟩
   ·exact mk e (E.one i e h)
   ·exact ⟨by show (0:Int) <= n; omega,by show (n:Int) < k.p.s.fVa; omega,by show 0 <= env; omega,by show env < k.p.s.fIa; omega,by show 1 <= k.now + 1; have:=ok.n0; omega,Int.le_refl _,.inl ⟨rfl,rfl⟩⟩
  ·rcases get j e he with ⟨hj,h⟩ | ⟨hj,rfl⟩
   ·rcases get i d hd with ⟨_,h'⟩ | ⟨hi',_⟩
    ·exact E.up i j d e hij h' h
    ·omega
   ·rcases get i d hd with ⟨_,h'⟩ | ⟨hi',_⟩
    ·have:=(E.one i d h').b1
     show d.fRa < k.now + 1; omega
    ·omega
  ·rcases get i d hd with ⟨_,h'⟩ | ⟨_,rfl⟩
   ·rcases get j e he with ⟨_,h⟩ | ⟨_,rfl⟩
    ·exact E.ef i j d e h' h hp heq
    ·have:(KK.ev0 n env c (k.now + 1)).fHa = 0:=rfl
     omega
   ·have:(KK.ev0 n env c (k.now + 1)).fHa = 0:=rfl
    omega
  ·rcases get j e he with ⟨hj,h⟩ | ⟨hj,rfl⟩
   ·rcases get i d hd with ⟨_,h'⟩ | ⟨hi',_⟩
    ·exact E.co i j d e hij h' h hc
    ·omega
   ·rcases get i d hd with ⟨_,h'⟩ | ⟨hi',_⟩
    ·have o:=E.one i d h'
     have hcc:d.fQa = n:=hc
     have hb1:=o.b1
     rcases o.st with s1 | s1
     ·exfalso
      obtain ⟨x,hx,_⟩:=E.open_ i d h' s1.1
      rw [hcc,Int.toNat_natCast,hnone] at hx
      cases hx
     ·have:=o.b0
      exact ⟨by omega,by show d.fXa < k.now + 1; omega⟩
    ·omega
  ·rcases cget a x hx with ⟨rfl,rfl⟩ | ⟨_,h⟩
   ·exact ⟨k.events.length,rfl,KK.ev0 a env c (k.now + 1),by simp,rfl,rfl,rfl,rfl⟩
   ·obtain ⟨m,h2,e,g1,g2⟩:=E.call a x h
    refine ⟨m,h2,e,?_,g2⟩
    show (k.events++[_])[m]? = _
    rw [List.getElem?_append_left (List.getElem?_eq_some_iff.1 g1).1]; exact g1
  ·rcases get i e he with ⟨_,h⟩ | ⟨hi',rfl⟩
   ·obtain ⟨x,hx,e1⟩:=E.open_ i e h h00
    refine ⟨x,?_,e1⟩
    show (k.calls.set n _)[e.fQa.toNat]? = _
    rw [List.getElem?_set,if_neg]
    ·exact hx
    ·rintro e2
     rw [← e2,hnone] at hx; cases hx
   ·refine ⟨⟨k.events.length,env,c,false,0⟩,?_,by rw [hi']⟩
    show (k.calls.set n _)[(n:Int).toNat]? = _
    simp [hlt]
theorem jm.ends {k:KK} (E:jm k) {c:Nat} {x:KC} (hx:k.calls[c]? = some (some x)) (hlate:∀ (i:Nat) e,k.events[i]? = some e->e.fRa < k.now/\e.fHa < k.now) (a:eH) (l:jn):jm (KK.ends k c x a l):=by
 obtain ⟨n,hn,e0,g1,g2,g3,g4,g5⟩:=E.call c x hx
 have hlt:=(List.getElem?_eq_some_iff.1 g1).1
 have hev:(KK.ends k c x a l).events = k.events.set n (KK.evend e0 k.now a l):=by
  unfold KK.ends
  rw [hn]
  simp only [Int.toNat_natCast,List.getD_eq_getElem?_getD,g1,Option.getD_some]
 have get:∀ (i:Nat) e,(k.events.set n (KK.evend e0 k.now a l))[i]? = some e->(i ≠ n/\k.events[i]? = some e)\/(i = n/\e = KK.evend e0 k.now a l):=by
  intro i e he
  rw [List.getElem?_set] at he
  by_cases h:n = i
  ·rw [if_pos h,if_pos hlt] at he
   exact .inr ⟨h.symm,by simpa using he.symm⟩
  ·rw [if_neg h] at he; exact .inl ⟨fun h'=>h h'.symm,he⟩
 have o0:=E.one n e0 g1
 have l0:=hlate n e0 g1
 have cls:(KK.ends k c x a l).calls = k.calls.set c none:=by simp [KK.ends]
 have cget:∀ (b:Nat) y,(k.calls.set c none)[b]? = some (some y)->b ≠ c/\k.calls[b]? = some (some y):=by
  intro b y hy
  rw [List.getElem?_set] at hy
  by_cases e:c = b
  ·rw [if_pos e] at hy
   split at hy
   ·cases hy
   ·cases hy
  ·rw [if_neg e] at hy; exact ⟨fun h=>e h.symm,hy⟩
 have b0:(KK.evend e0 k.now a l).fRa = e0.fRa:=rfl
 have b1:(KK.evend e0 k.now a l).fQa = e0.fQa:=rfl
 have b2:(KK.evend e0 k.now a l).fHa = k.now:=rfl
 have b3:(KK.evend e0 k.now a l).fXa = k.now:=rfl
 have b4:(KK.evend e0 k.now a l).fCa = e0.fCa:=rfl
 refine ⟨fun i e he=>?_,fun i j d e hij hd he=>?_,fun i j d e hd he hp heq=>?_,fun i j d e hij hd he hc=>?_,fun b y hy=>?_,fun i e he h00=>?_⟩
 ·rw [hev] at he
  rcases get i e he with ⟨_,h⟩ | ⟨_,rfl⟩
  ·exact (E.one i e h).later rfl (Int.le_refl _)
  ·exact ⟨o0.c0,o0.c1,o0.v0,o0.v1,o0.b0,o0.b1,.inr ⟨l0.1,rfl,Int.le_refl _⟩⟩
 ·rw [hev] at hd he
  have hd':∃ d',k.events[i]? = some d'/\d'.fRa = d.fRa:=by
   rcases get i d hd with ⟨_,h⟩ | ⟨rfl,rfl⟩
   ·exact ⟨d,h,rfl⟩
   ·exact ⟨e0,g1,rfl⟩
  have he':∃ e',k.events[j]? = some e'/\e'.fRa = e.fRa:=by
   rcases get j e he with ⟨_,h⟩ | ⟨rfl,rfl⟩
   ·exact ⟨e,h,rfl⟩
   ·exact ⟨e0,g1,rfl⟩
  obtain ⟨d',h1,h2⟩:=hd'
  obtain ⟨e',h3,h4⟩:=he'
  rw [← h2,← h4]; exact E.up i j d' e' hij h1 h3
 ·rw [hev] at hd he
  rcases get i d hd with ⟨_,h⟩ | ⟨rfl,rfl⟩
  ·rcases get j e he with ⟨_,h'⟩ | ⟨rfl,rfl⟩
   ·exact E.ef i j d e h h' hp heq
   ·have:=(hlate i d h).2
    rw [heq,b2] at this; omega
  ·rcases get j e he with ⟨_,h'⟩ | ⟨rfl,rfl⟩
   ·have:=(hlate j e h').2
    rw [← heq,b2] at this; omega
   ·rfl
 ·rw [hev] at hd he
  rcases get i d hd with ⟨_,h⟩ | ⟨rfl,rfl⟩
  ·rcases get j e he with ⟨_,h'⟩ | ⟨rfl,rfl⟩
   ·exact E.co i j d e hij h h' hc
   ·exact E.co i j d e0 hij h g1 hc
  ·rcases get j e he with ⟨_,h'⟩ | ⟨rfl,rfl⟩
   ·have:=E.co i j e0 e hij g1 h' hc
    rcases o0.st with s1 | s1
    ·omega
    ·rw [g5] at s1; have:=o0.b0; omega
   ·omega
 ·rw [cls] at hy
  obtain ⟨hbc,hy⟩:=cget b y hy
  obtain ⟨m,h2,e,f1,f2,f3⟩:=E.call b y hy
  refine ⟨m,h2,e,?_,f2,f3⟩
  rw [hev,List.getElem?_set,if_neg]
  ·exact f1
  ·rintro rfl
   rw [g1] at f1
   cases f1
   omega
 ·rw [hev] at he
  rcases get i e he with ⟨hne,h⟩ | ⟨_,rfl⟩
  ·obtain ⟨y,hy,e1⟩:=E.open_ i e h h00
   refine ⟨y,?_,e1⟩
   rw [cls,List.getElem?_set,if_neg]
   ·exact hy
   ·intro e2
    rw [← e2,hx] at hy
    cases hy
    rw [hn] at e1
    exact hne (by omega)
  ·have:=o0.b0
   rw [b2] at h00; omega
end
end Go.Proofs.YtemoifebbhoinaaGreatDoor
