/- Texts of this session's claim of ImagePuts, less what its theorem does not reach. No condition. -/
import Derived.Test.YtmeofdpmddjbgaaDoorIP11
import Derived.Test.YtmeofdpmddjbgaaDoorIP12
import Derived.Test.YtmeofdpmddjbgaaDoorIP13
import Derived.Test.YtmeofdpmddjbgaaDoorIP14
import Derived.Test.YtmeofdpmddjbgaaDoorIP15
section
namespace Go.Proofs.YtmeofdpmddjbgaaDoor.G
open Go.RowKit Go.Proofs.YtmeofdpmddjbgaaDoorW.PrintWords Go.Proofs.YtmeofdpmddjbgaaDoorW.PrintLast Go.Proofs.YtmeofdpmddjbgaaDoorW.PrintMore
attribute [local go_sem] max2_int min2_int max_two min_two max_three min_three max_four min_four   
set_option linter.unusedVariables false
set_option linter.unusedSimpArgs false
def barqueref10_Tree.l0:Nat→ByteArray→Int→List (S33)→Int→List (S75)→Int→Option ((List (S33)) × Int)
 | 0,_,_,_,_,_,_=>none
 | k + 1,x0,x6,x7,x8,x357000,x357001=>if x8 < (x357000.length:Int) then (if 0≤x8 then (if ((rd_T75 x357000 x8).f1) > (wrap64 ((x0.size:Int) - x6)) then (some (([]:List (S33)),3)) else (if 0≤x6 then (if x6≤(wrap64 (x6 + ((rd_T75 x357000 x8).f1))) then (if (wrap64 (x6 + ((rd_T75 x357000 x8).f1)))≤(x0.size:Int) then (if x7.length < 3518437208883 then (barqueref10_Tree.l0 k x0 (wrap64 (x6 + ((rd_T75 x357000 x8).f1))) (x7 ++ [(⟨(rd_T75 x357000 x8).f0.f0,(rd_T75 x357000 x8).f0.f1,x0.extract (x6:Int).toNat ((wrap64 (x6 + ((rd_T75 x357000 x8).f1))):Int).toNat⟩:S33)]) (wrap64 (x8 + 1)) x357000 x357001) else (none)) else (none)) else (none)) else (none))) else (none)) else (if x6 < (x0.size:Int) then (some (([]:List (S33)),4)) else (some (x7,0)))
def barqueref10_Tree.f (k:Nat) (a0:ByteArray):Option ((List (S33)) × Int):=if (a0.size:Int) > 524288 then (some (([]:List (S33)),4)) else ((barqueref10_Told.f k a0).bind fun bt351=>(if bt351.2.2=0 then (barqueref10_Tree.l0 k a0 bt351.2.1 ([]:List (S33)) 0 bt351.1 bt351.2.1) else (some (([]:List (S33)),bt351.2.2))))
set_option maxHeartbeats 8000000 in
set_option maxRecDepth 100000 in
theorem barqueref10_Tree.calls (k:Nat) (a0:ByteArray) (r1:List (S33)) (r2:Int) (w:World) (h:barqueref10_Tree.f k a0=some (r1,r2)) :
  Calls Tryd.prog 18 #[.string a0] w fun e w'=>∃ v0_:Value,e=.returned (.tuple #[v0_,.int .i64 r2])∧Kd.R k33 33 w' w.heap.size (fun _=>True) v0_ r1∧Below w.heap.size w w':=by
 have hu71:=Tryd.underlying71;have hu75:=Tryd.underlying75;have hu33:=Tryd.underlying33;have HB:=Aside0.mk (Below.refl w.heap.size w);have H:(if (a0.size:Int) > 524288 then (some (([]:List (S33)),4)) else ((barqueref10_Told.f k a0).bind fun bt351=>(if bt351.2.2=0 then (barqueref10_Tree.l0 k a0 bt351.2.1 ([]:List (S33)) 0 bt351.1 bt351.2.1) else (some (([]:List (S33)),bt351.2.2)))))=some (r1,r2):=h;clear h;by_cases c2:(a0.size:Int) > 524288
 ·rw [if_pos c2] at H;have c2b0:decide (524288 < (a0.size:Int))=true:=decide_eq_true c2;have c2b1:decide (524288 < a0.size)=true:=decide_eq_true (by omega);clear c2;simp only [Option.some.injEq,Prod.mk.injEq] at H;obtain ⟨rfl,rfl⟩:=H;go_enter Tryd.func18,Tryd.ntmps18;go_wp2;go_ret2;exact ⟨_,by first|rfl|(simp [errW_none,errW_some] <;> rfl)|(simp [*,errW_none,errW_some] <;> rfl),by first|exact Kd.R_nil _ _ _ _ _|exact Kd.N_nil _ _ _ _ _|exact Kd.V_nil _ _ _ _ _|exact Kd.Q_nil _ _ _ _ _|exact Kd.S_nil _ _ _ _ _,by repeat (first|(with_reducible first|exact HB.out|apply bal|apply bdN|apply bd1)|exact HB.out)⟩
 ·rw [if_neg c2] at H;have c2b0:decide (524288 < (a0.size:Int))=false:=decide_eq_false c2;have c2b1:decide (524288 < a0.size)=false:=decide_eq_false (by omega);clear c2;replace H:=Option.bind_eq_some_iff.mp H;obtain ⟨⟨t351,t354,t355⟩,A30,H⟩:=H;replace H:(if t355=0 then (barqueref10_Tree.l0 k a0 t354 ([]:List (S33)) 0 t351 t354) else (some (([]:List (S33)),t355)))=some (r1,r2):=H;have A3:=Aside0.mk A30;clear A30;by_cases c4:t355=0
  ·rw [if_pos c4] at H;have c4b0:(t355 == 0)=true:=beq_iff_eq.mpr c4;have c4b1:(t355 != 0)=false:=bne_eq_false_iff_eq.mpr c4;clear c4;have H':=Aside0.mk H;clear H;go_enter Tryd.func18,Tryd.ntmps18;go_wp2_with (first|((with_reducible refine gate_callee (f:=38) rfl ?_);refine goesL_ (some 15) rfl rfl Tryd.func38 (by kernel_rfl) rfl #[.string a0] rfl (by (try simp only [List.map_toArray,List.map_cons,List.map_nil]);first|done|rfl|(simp only [List.length_drop,List.length_take];rfl)) ?_;(with_reducible refine (barqueref10_Told.calls k a0 t351 t354 t355 _ A3.out).mono ?_);rintro e w5 ⟨v352,rfl,ho0,hb⟩;refine ⟨_,rfl,?_⟩;have n0_:=Aside0.mk (Kd.R_lower ho0 (below_size (by repeat (first|(with_reducible first|exact HB.out|apply bal|apply bdN|apply bd1)|exact HB.out))));have n1_:=Aside0.mk (below_step (by repeat (first|(with_reducible first|exact HB.out|apply bal|apply bdN|apply bd1)|exact HB.out)) hb);clear HB;have HO353:=n0_;have HB:=n1_;clear n0_ n1_;(try clear hb);(try clear hb2);(try clear hk);(try clear hi);(try clear ho0))|((with_reducible refine gate_dst (N:=4) rfl ?_);refine box_event ?hg (N:=4) ?hd (cs:=#[.slice none 0 0,.int .i64 0]) (t:=71) ?hr ?_;(case hd=>rfl);(case hg=>rfl);(case hr=>first|(go_simp;done)|(go_simp;rfl));intro gb356 hg w6 hbox hb;have n0_:=Aside0.mk (Kd.R_below (by (with_reducible repeat (first|apply Kd.R_alloc|apply Kd.R_drewN|apply Kd.R_drew));exact HO353.out) hb);have n1_:=Aside0.mk (below_step (by repeat (first|(with_reducible first|exact HB.out|apply bal|apply bdN|apply bd1)|exact HB.out)) hb);have n2_:=Aside0.mk (hbox);have n3_:=Aside0.mk ((by rw [hg];exact (below_size (by repeat (first|(with_reducible first|exact HB.out|apply bal|apply bdN|apply bd1)|exact HB.out))):w.heap.size≤gb356));have n4_:=Aside0.mk ((by rw [hg];exact (below_size (by repeat (first|(with_reducible first|exact HB.out|apply bal|apply bdN|apply bd1)|exact HB.out))):w.heap.size≤gb356));clear HO353;clear HB;have HO353:=n0_;have HB:=n1_;have BK356:=n2_;have GW356:=n3_;have GE356:=n4_;clear n0_ n1_ n2_ n3_ n4_;clear hb hbox hg;obtain ⟨Ao7,co7,eo7⟩:=Kd.R_slice HO353.out;subst eo7;have hcz8_0:w6.cell? ⟨gb356,0,none⟩=some (.slice none 0 0):=(blk_cell BK356.out 0).trans rfl;have hcz8_1:w6.cell? ⟨gb356,1,none⟩=some (.int .i64 0):=(blk_cell BK356.out 1).trans rfl;have hfz8_0:=blk_frozen BK356.out 0;have hfz8_1:=blk_frozen BK356.out 1));go_loopg [6,7,8] k (fun kq v6 v7 v8 w'=>∃ (x6_1:Int) (x7_1:List (S33)) (x8_1:Int),v6=.int .i64 x6_1∧v8=.int .i64 x8_1∧Aside0 (barqueref10_Tree.l0 kq a0 x6_1 x7_1 x8_1 t351 t354=some (r1,r2))∧Aside0 (kq≤k)∧Aside0 (Kd.R k33 33 w' w.heap.size (fun _=>True) v7 x7_1)∧Aside0 (Kd.R k75 75 w' w.heap.size (fun _=>True) (.slice Ao7 t351.length co7) t351)∧Aside0 (w'.heap[gb356]?=some (.cells #[(.slice Ao7 t351.length co7),.int .i64 t354] 71 (0,0)))∧Aside0 (Below w.heap.size w w'))
   case atStart=>exact ⟨(t354),(([]:List (S33))),(0),(by first|rfl|(simp;done)|(simp [*];done)),(by first|rfl|(simp;done)|(simp [*];done)),H',⟨Nat.le_refl _⟩,⟨by first|exact Kd.R_nil _ _ _ _ _|exact Kd.N_nil _ _ _ _ _|exact Kd.V_nil _ _ _ _ _|exact Kd.Q_nil _ _ _ _ _|exact Kd.S_nil _ _ _ _ _⟩,⟨by (with_reducible repeat (first|apply Kd.R_alloc|apply Kd.R_drewN|apply Kd.R_drew));exact Kd.R_mono (Kd.R_far (p:=⟨gb356,1,none⟩) (Kd.R_far (p:=⟨gb356,0,none⟩) (Kd.R_types HO353.out BK356.out (by decide)) (fun _ hk=>hk.2) (.slice Ao7 t351.length co7)) (fun _ hk=>hk.2) (.int .i64 t354)) (fun _ hk=>trivial)⟩,⟨by (with_reducible repeat (first|refine blk_drewN ?_ _|refine blk_drew ?_|refine blk_alloc ?_ _));refine blk_put (cs:=#[.slice Ao7 t351.length co7,.int .i64 0]) ?_ 1 _ rfl;(with_reducible repeat (first|refine blk_drewN ?_ _|refine blk_drew ?_|refine blk_alloc ?_ _));refine blk_put (cs:=#[.slice none 0 0,.int .i64 0]) ?_ 0 _ rfl;(with_reducible repeat (first|refine blk_drewN ?_ _|refine blk_drew ?_|refine blk_alloc ?_ _));exact BK356.out⟩,⟨by repeat (first|(with_reducible first|exact HB.out|apply bal|apply bdN|apply bd1|refine below_set ?_ GE356.out)|exact HB.out)⟩⟩
   case round =>
    clear H';(try clear c1);(try clear c2);(try clear c2b0);(try clear c2b1);(try clear p2);(try clear c3);(try clear c4);(try clear c4b0);(try clear c4b1);(try clear hcz8_0);(try clear hcz8_1);(try clear hfz8_0);(try clear hfz8_1);obtain ⟨x6_1,x7_1,x8_1,rfl,rfl,HA,HK1,HO_7,HO_357000,BK356,HB⟩:=hrel
    cases gk with
    | zero=>exact absurd HA.out (by simp [barqueref10_Tree.l0])
    | succ k1 =>
     have H:=HA.out;clear HA;simp only [barqueref10_Tree.l0] at H;by_cases c9:x8_1 < (t351.length:Int)
     ·rw [if_pos c9] at H;have c9b0:decide (x8_1 < (t351.length:Int))=true:=decide_eq_true c9;clear c9;by_cases c10:0≤x8_1
      ·rw [if_pos c10] at H;have c10b0:decide (0≤x8_1)=true:=decide_eq_true c10;clear c10;by_cases c11:((rd_T75 t351 x8_1).f1) > (wrap64 ((a0.size:Int) - x6_1))
       ·rw [if_pos c11] at H;have c11b0:decide ((wrap64 ((a0.size:Int) - x6_1)) < ((rd_T75 t351 x8_1).f1))=true:=decide_eq_true c11;clear c11;simp only [Option.some.injEq,Prod.mk.injEq] at H;obtain ⟨rfl,rfl⟩:=H;have hcz12_0:wr.cell? ⟨gb356,0,none⟩=some (.slice Ao7 t351.length co7):=(blk_cell BK356.out 0).trans rfl;have hcz12_1:wr.cell? ⟨gb356,1,none⟩=some (.int .i64 t354):=(blk_cell BK356.out 1).trans rfl;have hfz12_0:=blk_frozen BK356.out 0;have hfz12_1:=blk_frozen BK356.out 1;have p357:0≤(x8_1:Int):=of_decide_eq_true (by first|(with_reducible assumption)|assumption);have q357:x8_1 < (t351.length:Int):=of_decide_eq_true (by first|(with_reducible assumption)|assumption);obtain ⟨ad357,e357,hx357_0,hx357_1,hx357_2,hx357_3⟩:=at_T75 (Kd.R_reads' HO_357000.out).2.2 x8_1 p357 q357;cases e357;replace p357:=eq_true p357;replace q357:=eq_true q357;go_wp2_with (first|((with_reducible refine gate_dst (N:=9) rfl ?_);refine box_event ?hg (N:=9) ?hd (cs:=#[.string (⟨#[]⟩:ByteArray),.int .i64 0,.string (⟨#[]⟩:ByteArray),.int .i64 0]) (t:=75) ?hr ?_;(case hd=>rfl);(case hg=>rfl);(case hr=>first|(go_simp;done)|(go_simp;rfl));intro gb358 hg w13 hbox hb;have n0_:=Aside0.mk (Kd.R_below (by (with_reducible repeat (first|apply Kd.R_alloc|apply Kd.R_drewN|apply Kd.R_drew));exact HO_7.out) hb);have n1_:=Aside0.mk (Kd.R_below (Kd.R_elderB (by (with_reducible repeat (first|apply Kd.R_alloc|apply Kd.R_drewN|apply Kd.R_drew));exact HO_357000.out) gb358 (Nat.le_of_eq hg.symm)) hb);have n2_:=Aside0.mk (blk_below (g:=gb356) (o:=.cells #[.slice (some ad357) t351.length co7,.int .i64 t354] 71 (0,0)) (by (with_reducible repeat (first|refine blk_drewN ?_ _|refine blk_drew ?_|refine blk_alloc ?_ _));exact BK356.out) hb);have n3_:=Aside0.mk (below_step (by repeat (first|(with_reducible first|exact HB.out|apply bal|apply bdN|apply bd1|refine below_set ?_ GE356.out)|exact HB.out)) hb);have n4_:=Aside0.mk (hbox);have n5_:=Aside0.mk ((by rw [hg];exact (below_size (by repeat (first|(with_reducible first|exact HB.out|apply bal|apply bdN|apply bd1|refine below_set ?_ GE356.out)|exact HB.out))):w.heap.size≤gb358));have n6_:=Aside0.mk ((by rw [hg];exact (below_size (by repeat (first|(with_reducible first|exact HB.out|apply bal|apply bdN|apply bd1|refine below_set ?_ GE356.out)|exact HB.out))):w.heap.size≤gb358));have n7_:=Aside0.mk ((by rw [hg];exact Nat.ne_of_lt (blk_lt (g:=gb356) (o:=.cells #[.slice (some ad357) t351.length co7,.int .i64 t354] 71 (0,0)) (by (with_reducible repeat (first|refine blk_drewN ?_ _|refine blk_drew ?_|refine blk_alloc ?_ _));exact BK356.out)):gb356 ≠ gb358));have n8_:=Aside0.mk ((by rw [hg];exact Nat.ne_of_gt (blk_lt (g:=gb356) (o:=.cells #[.slice (some ad357) t351.length co7,.int .i64 t354] 71 (0,0)) (by (with_reducible repeat (first|refine blk_drewN ?_ _|refine blk_drew ?_|refine blk_alloc ?_ _));exact BK356.out)):gb358 ≠ gb356));clear HO_7;clear HO_357000;clear BK356;clear HB;have HO_7:=n0_;have HO_357000:=n1_;have BK356:=n2_;have HB:=n3_;have BK358:=n4_;have GW358:=n5_;have GE358:=n6_;have NB356_358:=n7_;have NB358_356:=n8_;clear n0_ n1_ n2_ n3_ n4_ n5_ n6_ n7_ n8_;clear hb hbox hg;have hnb14:=NB358_356.out;have hnc14:=NB356_358.out;have hcz15_0:w13.cell? ⟨gb358,0,none⟩=some (.string (⟨#[]⟩:ByteArray)):=(blk_cell BK358.out 0).trans rfl;have hcz15_1:w13.cell? ⟨gb358,1,none⟩=some (.int .i64 0):=(blk_cell BK358.out 1).trans rfl;have hcz15_2:w13.cell? ⟨gb358,2,none⟩=some (.string (⟨#[]⟩:ByteArray)):=(blk_cell BK358.out 2).trans rfl;have hcz15_3:w13.cell? ⟨gb358,3,none⟩=some (.int .i64 0):=(blk_cell BK358.out 3).trans rfl;have hfz15_0:=blk_frozen BK358.out 0;have hfz15_1:=blk_frozen BK358.out 1;have hfz15_2:=blk_frozen BK358.out 2;have hfz15_3:=blk_frozen BK358.out 3;have hq40_:∀ (a_ b_ c_ d_:Value),((((w13.setCell ⟨gb358,0,none⟩ a_).setCell ⟨gb358,1,none⟩ b_).setCell ⟨gb358,2,none⟩ c_).setCell ⟨gb358,3,none⟩ d_).cell? ⟨gb358,0,none⟩=some a_:=fun a_ b_ c_ d_=>(blk_cell (blk_put (blk_put (blk_put (blk_put BK358.out 0 a_ rfl) 1 b_ rfl) 2 c_ rfl) 3 d_ rfl) 0).trans rfl;have hq41_:∀ (a_ b_ c_ d_:Value),((((w13.setCell ⟨gb358,0,none⟩ a_).setCell ⟨gb358,1,none⟩ b_).setCell ⟨gb358,2,none⟩ c_).setCell ⟨gb358,3,none⟩ d_).cell? ⟨gb358,1,none⟩=some b_:=fun a_ b_ c_ d_=>(blk_cell (blk_put (blk_put (blk_put (blk_put BK358.out 0 a_ rfl) 1 b_ rfl) 2 c_ rfl) 3 d_ rfl) 1).trans rfl;have hq42_:∀ (a_ b_ c_ d_:Value),((((w13.setCell ⟨gb358,0,none⟩ a_).setCell ⟨gb358,1,none⟩ b_).setCell ⟨gb358,2,none⟩ c_).setCell ⟨gb358,3,none⟩ d_).cell? ⟨gb358,2,none⟩=some c_:=fun a_ b_ c_ d_=>(blk_cell (blk_put (blk_put (blk_put (blk_put BK358.out 0 a_ rfl) 1 b_ rfl) 2 c_ rfl) 3 d_ rfl) 2).trans rfl;have hq43_:∀ (a_ b_ c_ d_:Value),((((w13.setCell ⟨gb358,0,none⟩ a_).setCell ⟨gb358,1,none⟩ b_).setCell ⟨gb358,2,none⟩ c_).setCell ⟨gb358,3,none⟩ d_).cell? ⟨gb358,3,none⟩=some d_:=fun a_ b_ c_ d_=>(blk_cell (blk_put (blk_put (blk_put (blk_put BK358.out 0 a_ rfl) 1 b_ rfl) 2 c_ rfl) 3 d_ rfl) 3).trans rfl;have hqf4_:∀ (a_ b_ c_ d_:Value),((((w13.setCell ⟨gb358,0,none⟩ a_).setCell ⟨gb358,1,none⟩ b_).setCell ⟨gb358,2,none⟩ c_).setCell ⟨gb358,3,none⟩ d_).frozen? ⟨gb358,2,none⟩=false:=fun a_ b_ c_ d_=>blk_frozen (blk_put (blk_put (blk_put (blk_put BK358.out 0 a_ rfl) 1 b_ rfl) 2 c_ rfl) 3 d_ rfl) 2;have hq50_:∀ (a_ b_ c_ d_ e_:Value),(((((w13.setCell ⟨gb358,0,none⟩ a_).setCell ⟨gb358,1,none⟩ b_).setCell ⟨gb358,2,none⟩ c_).setCell ⟨gb358,3,none⟩ d_).setCell ⟨gb358,2,none⟩ e_).cell? ⟨gb358,0,none⟩=some a_:=fun a_ b_ c_ d_ e_=>(blk_cell (blk_put (blk_put (blk_put (blk_put (blk_put BK358.out 0 a_ rfl) 1 b_ rfl) 2 c_ rfl) 3 d_ rfl) 2 e_ rfl) 0).trans rfl;have hq51_:∀ (a_ b_ c_ d_ e_:Value),(((((w13.setCell ⟨gb358,0,none⟩ a_).setCell ⟨gb358,1,none⟩ b_).setCell ⟨gb358,2,none⟩ c_).setCell ⟨gb358,3,none⟩ d_).setCell ⟨gb358,2,none⟩ e_).cell? ⟨gb358,1,none⟩=some b_:=fun a_ b_ c_ d_ e_=>(blk_cell (blk_put (blk_put (blk_put (blk_put (blk_put BK358.out 0 a_ rfl) 1 b_ rfl) 2 c_ rfl) 3 d_ rfl) 2 e_ rfl) 1).trans rfl;have hq52_:∀ (a_ b_ c_ d_ e_:Value),(((((w13.setCell ⟨gb358,0,none⟩ a_).setCell ⟨gb358,1,none⟩ b_).setCell ⟨gb358,2,none⟩ c_).setCell ⟨gb358,3,none⟩ d_).setCell ⟨gb358,2,none⟩ e_).cell? ⟨gb358,2,none⟩=some e_:=fun a_ b_ c_ d_ e_=>(blk_cell (blk_put (blk_put (blk_put (blk_put (blk_put BK358.out 0 a_ rfl) 1 b_ rfl) 2 c_ rfl) 3 d_ rfl) 2 e_ rfl) 2).trans rfl;have hq53_:∀ (a_ b_ c_ d_ e_:Value),(((((w13.setCell ⟨gb358,0,none⟩ a_).setCell ⟨gb358,1,none⟩ b_).setCell ⟨gb358,2,none⟩ c_).setCell ⟨gb358,3,none⟩ d_).setCell ⟨gb358,2,none⟩ e_).cell? ⟨gb358,3,none⟩=some d_:=fun a_ b_ c_ d_ e_=>(blk_cell (blk_put (blk_put (blk_put (blk_put (blk_put BK358.out 0 a_ rfl) 1 b_ rfl) 2 c_ rfl) 3 d_ rfl) 2 e_ rfl) 3).trans rfl;have hqf5_:∀ (a_ b_ c_ d_ e_:Value),(((((w13.setCell ⟨gb358,0,none⟩ a_).setCell ⟨gb358,1,none⟩ b_).setCell ⟨gb358,2,none⟩ c_).setCell ⟨gb358,3,none⟩ d_).setCell ⟨gb358,2,none⟩ e_).frozen? ⟨gb358,2,none⟩=false:=fun a_ b_ c_ d_ e_=>blk_frozen (blk_put (blk_put (blk_put (blk_put (blk_put BK358.out 0 a_ rfl) 1 b_ rfl) 2 c_ rfl) 3 d_ rfl) 2 e_ rfl) 2));go_ret2;exact ⟨_,by first|rfl|(simp [errW_none,errW_some] <;> rfl)|(simp [*,errW_none,errW_some] <;> rfl),by first|exact Kd.R_nil _ _ _ _ _|exact Kd.N_nil _ _ _ _ _|exact Kd.V_nil _ _ _ _ _|exact Kd.Q_nil _ _ _ _ _|exact Kd.S_nil _ _ _ _ _,by repeat (first|(with_reducible first|exact HB.out|apply bal|apply bdN|apply bd1|refine below_set ?_ GE356.out|refine below_set ?_ GE358.out)|exact HB.out)⟩
       ·rw [if_neg c11] at H;have c11b0:decide ((wrap64 ((a0.size:Int) - x6_1)) < ((rd_T75 t351 x8_1).f1))=false:=decide_eq_false c11;clear c11;by_cases c16:0≤x6_1
        ·rw [if_pos c16] at H;have c16b0:=eq_true c16;have c16b1:decide (0≤x6_1)=true:=decide_eq_true c16;clear c16;by_cases c17:x6_1≤(wrap64 (x6_1 + ((rd_T75 t351 x8_1).f1)))
         ·rw [if_pos c17] at H;have c17b0:=eq_true c17;have c17b1:decide (x6_1≤(wrap64 (x6_1 + ((rd_T75 t351 x8_1).f1))))=true:=decide_eq_true c17;by_cases c18:(wrap64 (x6_1 + ((rd_T75 t351 x8_1).f1)))≤(a0.size:Int)
          ·rw [if_pos c18] at H;have c18b0:=eq_true c18;have c18b1:decide ((wrap64 (x6_1 + ((rd_T75 t351 x8_1).f1)))≤(a0.size:Int))=true:=decide_eq_true c18;by_cases c19:x7_1.length < 3518437208883
           ·rw [if_pos c19] at H;have LMc19:=Aside0.mk c19;clear c19;obtain ⟨y359,hy359⟩:∃ y_:List (S33),y_=(x7_1 ++ [(⟨(rd_T75 t351 x8_1).f0.f0,(rd_T75 t351 x8_1).f0.f1,a0.extract (x6_1:Int).toNat ((wrap64 (x6_1 + ((rd_T75 t351 x8_1).f1))):Int).toNat⟩:S33)]):=⟨_,rfl⟩;(replace H:(barqueref10_Tree.l0 k1 a0 (wrap64 (x6_1 + ((rd_T75 t351 x8_1).f1))) y359 (wrap64 (x8_1 + 1)) t351 t354)=some (r1,r2):=by first|(rw [hy359];with_reducible exact H)|(have H2_:=(Option.bind_some _ _).symm.trans H;rw [hy359];with_reducible exact H2_)|(have H2_:=(Option.bind_some _ _).symm.trans H;with_reducible exact H2_)|with_reducible exact H|(rw [hy359];exact H)|exact H);have Ny359:=Aside0.mk hy359;clear hy359;have H':=Aside0.mk H;clear H;have hcz20_0:wr.cell? ⟨gb356,0,none⟩=some (.slice Ao7 t351.length co7):=(blk_cell BK356.out 0).trans rfl;have hcz20_1:wr.cell? ⟨gb356,1,none⟩=some (.int .i64 t354):=(blk_cell BK356.out 1).trans rfl;have hfz20_0:=blk_frozen BK356.out 0;have hfz20_1:=blk_frozen BK356.out 1;have p357:0≤(x8_1:Int):=of_decide_eq_true (by first|(with_reducible assumption)|assumption);have q357:x8_1 < (t351.length:Int):=of_decide_eq_true (by first|(with_reducible assumption)|assumption);obtain ⟨ad357,e357,hx357_0,hx357_1,hx357_2,hx357_3⟩:=at_T75 (Kd.R_reads' HO_357000.out).2.2 x8_1 p357 q357;cases e357;replace p357:=eq_true p357;replace q357:=eq_true q357;go_wp2_with (first|((with_reducible refine gate_dst (N:=9) rfl ?_);refine box_event ?hg (N:=9) ?hd (cs:=#[.string (⟨#[]⟩:ByteArray),.int .i64 0,.string (⟨#[]⟩:ByteArray),.int .i64 0]) (t:=75) ?hr ?_;(case hd=>rfl);(case hg=>rfl);(case hr=>first|(go_simp;done)|(go_simp;rfl));intro gb358 hg w21 hbox hb;have n0_:=Aside0.mk (Kd.R_below (by (with_reducible repeat (first|apply Kd.R_alloc|apply Kd.R_drewN|apply Kd.R_drew));exact HO_7.out) hb);have n1_:=Aside0.mk (Kd.R_below (Kd.R_elderB (by (with_reducible repeat (first|apply Kd.R_alloc|apply Kd.R_drewN|apply Kd.R_drew));exact HO_357000.out) gb358 (Nat.le_of_eq hg.symm)) hb);have n2_:=Aside0.mk (blk_below (g:=gb356) (o:=.cells #[.slice (some ad357) t351.length co7,.int .i64 t354] 71 (0,0)) (by (with_reducible repeat (first|refine blk_drewN ?_ _|refine blk_drew ?_|refine blk_alloc ?_ _));exact BK356.out) hb);have n3_:=Aside0.mk (below_step (by repeat (first|(with_reducible first|exact HB.out|apply bal|apply bdN|apply bd1|refine below_set ?_ GE356.out)|exact HB.out)) hb);have n4_:=Aside0.mk (hbox);have n5_:=Aside0.mk ((by rw [hg];exact (below_size (by repeat (first|(with_reducible first|exact HB.out|apply bal|apply bdN|apply bd1|refine below_set ?_ GE356.out)|exact HB.out))):w.heap.size≤gb358));have n6_:=Aside0.mk ((by rw [hg];exact (below_size (by repeat (first|(with_reducible first|exact HB.out|apply bal|apply bdN|apply bd1|refine below_set ?_ GE356.out)|exact HB.out))):w.heap.size≤gb358));have n7_:=Aside0.mk ((by rw [hg];exact Nat.ne_of_lt (blk_lt (g:=gb356) (o:=.cells #[.slice (some ad357) t351.length co7,.int .i64 t354] 71 (0,0)) (by (with_reducible repeat (first|refine blk_drewN ?_ _|refine blk_drew ?_|refine blk_alloc ?_ _));exact BK356.out)):gb356 ≠ gb358));have n8_:=Aside0.mk ((by rw [hg];exact Nat.ne_of_gt (blk_lt (g:=gb356) (o:=.cells #[.slice (some ad357) t351.length co7,.int .i64 t354] 71 (0,0)) (by (with_reducible repeat (first|refine blk_drewN ?_ _|refine blk_drew ?_|refine blk_alloc ?_ _));exact BK356.out)):gb358 ≠ gb356));clear HO_7;clear HO_357000;clear BK356;clear HB;have HO_7:=n0_;have HO_357000:=n1_;have BK356:=n2_;have HB:=n3_;have BK358:=n4_;have GW358:=n5_;have GE358:=n6_;have NB356_358:=n7_;have NB358_356:=n8_;clear n0_ n1_ n2_ n3_ n4_ n5_ n6_ n7_ n8_;clear hb hbox hg;have hnb22:=NB358_356.out;have hnc22:=NB356_358.out;have hcz23_0:w21.cell? ⟨gb358,0,none⟩=some (.string (⟨#[]⟩:ByteArray)):=(blk_cell BK358.out 0).trans rfl;have hcz23_1:w21.cell? ⟨gb358,1,none⟩=some (.int .i64 0):=(blk_cell BK358.out 1).trans rfl;have hcz23_2:w21.cell? ⟨gb358,2,none⟩=some (.string (⟨#[]⟩:ByteArray)):=(blk_cell BK358.out 2).trans rfl;have hcz23_3:w21.cell? ⟨gb358,3,none⟩=some (.int .i64 0):=(blk_cell BK358.out 3).trans rfl;have hfz23_0:=blk_frozen BK358.out 0;have hfz23_1:=blk_frozen BK358.out 1;have hfz23_2:=blk_frozen BK358.out 2;have hfz23_3:=blk_frozen BK358.out 3;have hq40_:∀ (a_ b_ c_ d_:Value),((((w21.setCell ⟨gb358,0,none⟩ a_).setCell ⟨gb358,1,none⟩ b_).setCell ⟨gb358,2,none⟩ c_).setCell ⟨gb358,3,none⟩ d_).cell? ⟨gb358,0,none⟩=some a_:=fun a_ b_ c_ d_=>(blk_cell (blk_put (blk_put (blk_put (blk_put BK358.out 0 a_ rfl) 1 b_ rfl) 2 c_ rfl) 3 d_ rfl) 0).trans rfl;have hq41_:∀ (a_ b_ c_ d_:Value),((((w21.setCell ⟨gb358,0,none⟩ a_).setCell ⟨gb358,1,none⟩ b_).setCell ⟨gb358,2,none⟩ c_).setCell ⟨gb358,3,none⟩ d_).cell? ⟨gb358,1,none⟩=some b_:=fun a_ b_ c_ d_=>(blk_cell (blk_put (blk_put (blk_put (blk_put BK358.out 0 a_ rfl) 1 b_ rfl) 2 c_ rfl) 3 d_ rfl) 1).trans rfl;have hq42_:∀ (a_ b_ c_ d_:Value),((((w21.setCell ⟨gb358,0,none⟩ a_).setCell ⟨gb358,1,none⟩ b_).setCell ⟨gb358,2,none⟩ c_).setCell ⟨gb358,3,none⟩ d_).cell? ⟨gb358,2,none⟩=some c_:=fun a_ b_ c_ d_=>(blk_cell (blk_put (blk_put (blk_put (blk_put BK358.out 0 a_ rfl) 1 b_ rfl) 2 c_ rfl) 3 d_ rfl) 2).trans rfl;have hq43_:∀ (a_ b_ c_ d_:Value),((((w21.setCell ⟨gb358,0,none⟩ a_).setCell ⟨gb358,1,none⟩ b_).setCell ⟨gb358,2,none⟩ c_).setCell ⟨gb358,3,none⟩ d_).cell? ⟨gb358,3,none⟩=some d_:=fun a_ b_ c_ d_=>(blk_cell (blk_put (blk_put (blk_put (blk_put BK358.out 0 a_ rfl) 1 b_ rfl) 2 c_ rfl) 3 d_ rfl) 3).trans rfl;have hqf4_:∀ (a_ b_ c_ d_:Value),((((w21.setCell ⟨gb358,0,none⟩ a_).setCell ⟨gb358,1,none⟩ b_).setCell ⟨gb358,2,none⟩ c_).setCell ⟨gb358,3,none⟩ d_).frozen? ⟨gb358,2,none⟩=false:=fun a_ b_ c_ d_=>blk_frozen (blk_put (blk_put (blk_put (blk_put BK358.out 0 a_ rfl) 1 b_ rfl) 2 c_ rfl) 3 d_ rfl) 2;have hq50_:∀ (a_ b_ c_ d_ e_:Value),(((((w21.setCell ⟨gb358,0,none⟩ a_).setCell ⟨gb358,1,none⟩ b_).setCell ⟨gb358,2,none⟩ c_).setCell ⟨gb358,3,none⟩ d_).setCell ⟨gb358,2,none⟩ e_).cell? ⟨gb358,0,none⟩=some a_:=fun a_ b_ c_ d_ e_=>(blk_cell (blk_put (blk_put (blk_put (blk_put (blk_put BK358.out 0 a_ rfl) 1 b_ rfl) 2 c_ rfl) 3 d_ rfl) 2 e_ rfl) 0).trans rfl;have hq51_:∀ (a_ b_ c_ d_ e_:Value),(((((w21.setCell ⟨gb358,0,none⟩ a_).setCell ⟨gb358,1,none⟩ b_).setCell ⟨gb358,2,none⟩ c_).setCell ⟨gb358,3,none⟩ d_).setCell ⟨gb358,2,none⟩ e_).cell? ⟨gb358,1,none⟩=some b_:=fun a_ b_ c_ d_ e_=>(blk_cell (blk_put (blk_put (blk_put (blk_put (blk_put BK358.out 0 a_ rfl) 1 b_ rfl) 2 c_ rfl) 3 d_ rfl) 2 e_ rfl) 1).trans rfl;have hq52_:∀ (a_ b_ c_ d_ e_:Value),(((((w21.setCell ⟨gb358,0,none⟩ a_).setCell ⟨gb358,1,none⟩ b_).setCell ⟨gb358,2,none⟩ c_).setCell ⟨gb358,3,none⟩ d_).setCell ⟨gb358,2,none⟩ e_).cell? ⟨gb358,2,none⟩=some e_:=fun a_ b_ c_ d_ e_=>(blk_cell (blk_put (blk_put (blk_put (blk_put (blk_put BK358.out 0 a_ rfl) 1 b_ rfl) 2 c_ rfl) 3 d_ rfl) 2 e_ rfl) 2).trans rfl;have hq53_:∀ (a_ b_ c_ d_ e_:Value),(((((w21.setCell ⟨gb358,0,none⟩ a_).setCell ⟨gb358,1,none⟩ b_).setCell ⟨gb358,2,none⟩ c_).setCell ⟨gb358,3,none⟩ d_).setCell ⟨gb358,2,none⟩ e_).cell? ⟨gb358,3,none⟩=some d_:=fun a_ b_ c_ d_ e_=>(blk_cell (blk_put (blk_put (blk_put (blk_put (blk_put BK358.out 0 a_ rfl) 1 b_ rfl) 2 c_ rfl) 3 d_ rfl) 2 e_ rfl) 3).trans rfl;have hqf5_:∀ (a_ b_ c_ d_ e_:Value),(((((w21.setCell ⟨gb358,0,none⟩ a_).setCell ⟨gb358,1,none⟩ b_).setCell ⟨gb358,2,none⟩ c_).setCell ⟨gb358,3,none⟩ d_).setCell ⟨gb358,2,none⟩ e_).frozen? ⟨gb358,2,none⟩=false:=fun a_ b_ c_ d_ e_=>blk_frozen (blk_put (blk_put (blk_put (blk_put (blk_put BK358.out 0 a_ rfl) 1 b_ rfl) 2 c_ rfl) 3 d_ rfl) 2 e_ rfl) 2)|((with_reducible refine gate_builtin (b:=.append) (xs:=#[.tmp 51,.tmp 54]) rfl ?_);at_builtin;refine Kd.R_append k33 (w0:=w) w.heap.size rfl (.tmp 51) (.tmp 54) 22 33 (.agg #[(.string ⟨#[]⟩),(.int .i64 0),(.string ⟨#[]⟩)]) 40 rfl Tryd.underlying22 info33 rfl (by decide) (by omega) u7 x7_1 (⟨(rd_T75 t351 x8_1).f0.f0,(rd_T75 t351 x8_1).f0.f1,a0.extract (x6_1:Int).toNat ((wrap64 (x6_1 + ((rd_T75 t351 x8_1).f1))):Int).toNat⟩:S33) [.string ((rd_T75 t351 x8_1).f0.f0),.int .i64 ((rd_T75 t351 x8_1).f0.f1),.string (a0.extract (x6_1:Int).toNat ((wrap64 (x6_1 + ((rd_T75 t351 x8_1).f1))):Int).toNat)] (fun _=>True) (fun _=>False) rfl (by first|(go_simp;done)|(go_simp;rfl)) ?aP (fun _ hk=>hk.elim) ?aF ?aO ?aB ?aS ?aL ?_;(case aP=>exact k33_mkM _ _ _ (⟨(rd_T75 t351 x8_1).f0.f0,(rd_T75 t351 x8_1).f0.f1,a0.extract (x6_1:Int).toNat ((wrap64 (x6_1 + ((rd_T75 t351 x8_1).f1))):Int).toNat⟩:S33));(case aB=>exact (by repeat (first|(with_reducible first|exact HB.out|apply bal|apply bdN|apply bd1|refine below_set ?_ GE356.out|refine below_set ?_ GE358.out)|exact HB.out)));(case aF=>exact (fun _ _=>trivial));(case aO=>exact (by (with_reducible repeat (first|apply Kd.R_alloc|apply Kd.R_drewN|apply Kd.R_drew));exact Kd.R_mono (Kd.R_far (p:=⟨gb358,2,none⟩) (Kd.R_far (p:=⟨gb358,3,none⟩) (Kd.R_far (p:=⟨gb358,2,none⟩) (Kd.R_far (p:=⟨gb358,1,none⟩) (Kd.R_far (p:=⟨gb358,0,none⟩) (Kd.R_types HO_7.out BK358.out (by decide)) (fun _ hk=>hk.2) (.string ((rd_T75 t351 x8_1).f0.f0))) (fun _ hk=>hk.2) (.int .i64 ((rd_T75 t351 x8_1).f0.f1))) (fun _ hk=>hk.2) (.string ((rd_T75 t351 x8_1).f0.f2))) (fun _ hk=>hk.2) (.int .i64 ((rd_T75 t351 x8_1).f1))) (fun _ hk=>hk.2) (.string (a0.extract (x6_1:Int).toNat ((wrap64 (x6_1 + ((rd_T75 t351 x8_1).f1))):Int).toNat))) (fun _ hk=>trivial)));(case aS=>exact (below_size (by repeat (first|(with_reducible first|exact HB.out|apply bal|apply bdN|apply bd1|refine below_set ?_ GE356.out|refine below_set ?_ GE358.out)|exact HB.out))));(case aL=>have:=LMc19.out;omega);intro v360 w24 ho hb hg hat;rw [← Ny359.out] at ho;have n0_:=Aside0.mk (Kd.R_over' (by (with_reducible repeat (first|apply Kd.R_alloc|apply Kd.R_drewN|apply Kd.R_drew));exact (Kd.R_mono (Kd.R_far (p:=⟨gb358,2,none⟩) (Kd.R_far (p:=⟨gb358,3,none⟩) (Kd.R_far (p:=⟨gb358,2,none⟩) (Kd.R_far (p:=⟨gb358,1,none⟩) (Kd.R_far (p:=⟨gb358,0,none⟩) (Kd.R_mono HO_357000.out (fun k_ hk=>(⟨hk,hk.2⟩:_∧k_ ≠ gb358))) (fun _ hk=>hk.2) (.string ((rd_T75 t351 x8_1).f0.f0))) (fun _ hk=>hk.2) (.int .i64 ((rd_T75 t351 x8_1).f0.f1))) (fun _ hk=>hk.2) (.string ((rd_T75 t351 x8_1).f0.f2))) (fun _ hk=>hk.2) (.int .i64 ((rd_T75 t351 x8_1).f1))) (fun _ hk=>hk.2) (.string (a0.extract (x6_1:Int).toNat ((wrap64 (x6_1 + ((rd_T75 t351 x8_1).f1))):Int).toNat))) (fun _ h_=>h_.1))) (Kd.R_typed (by (with_reducible repeat (first|apply Kd.R_alloc|apply Kd.R_drewN|apply Kd.R_drew));exact (Kd.R_mono (Kd.R_far (p:=⟨gb358,2,none⟩) (Kd.R_far (p:=⟨gb358,3,none⟩) (Kd.R_far (p:=⟨gb358,2,none⟩) (Kd.R_far (p:=⟨gb358,1,none⟩) (Kd.R_far (p:=⟨gb358,0,none⟩) (Kd.R_types HO_7.out BK358.out (by decide)) (fun _ hk=>hk.2) (.string ((rd_T75 t351 x8_1).f0.f0))) (fun _ hk=>hk.2) (.int .i64 ((rd_T75 t351 x8_1).f0.f1))) (fun _ hk=>hk.2) (.string ((rd_T75 t351 x8_1).f0.f2))) (fun _ hk=>hk.2) (.int .i64 ((rd_T75 t351 x8_1).f1))) (fun _ hk=>hk.2) (.string (a0.extract (x6_1:Int).toNat ((wrap64 (x6_1 + ((rd_T75 t351 x8_1).f1))):Int).toNat))) (fun _ h_=>h_.1)))) (by decide) hg);have n1_:=Aside0.mk (blk_grown (g:=gb356) (o:=.cells #[.slice (some ad357) t351.length co7,.int .i64 t354] 71 (0,0)) (by (with_reducible repeat (first|refine blk_drewN ?_ _|refine blk_drew ?_|refine blk_alloc ?_ _));refine blk_far ?_ NB356_358.out _;(with_reducible repeat (first|refine blk_drewN ?_ _|refine blk_drew ?_|refine blk_alloc ?_ _));refine blk_far ?_ NB356_358.out _;(with_reducible repeat (first|refine blk_drewN ?_ _|refine blk_drew ?_|refine blk_alloc ?_ _));refine blk_far ?_ NB356_358.out _;(with_reducible repeat (first|refine blk_drewN ?_ _|refine blk_drew ?_|refine blk_alloc ?_ _));refine blk_far ?_ NB356_358.out _;(with_reducible repeat (first|refine blk_drewN ?_ _|refine blk_drew ?_|refine blk_alloc ?_ _));refine blk_far ?_ NB356_358.out _;(with_reducible repeat (first|refine blk_drewN ?_ _|refine blk_drew ?_|refine blk_alloc ?_ _));exact BK356.out) hg (Kd.R_ne HO_7.out BK356.out (by decide)));have n2_:=Aside0.mk (blk_grown (g:=gb358) (o:=.cells #[.string ((rd_T75 t351 x8_1).f0.f0),.int .i64 ((rd_T75 t351 x8_1).f0.f1),.string (a0.extract (x6_1:Int).toNat ((wrap64 (x6_1 + ((rd_T75 t351 x8_1).f1))):Int).toNat),.int .i64 ((rd_T75 t351 x8_1).f1)] 75 (0,0)) (by (with_reducible repeat (first|refine blk_drewN ?_ _|refine blk_drew ?_|refine blk_alloc ?_ _));refine blk_put (cs:=#[.string ((rd_T75 t351 x8_1).f0.f0),.int .i64 ((rd_T75 t351 x8_1).f0.f1),.string ((rd_T75 t351 x8_1).f0.f2),.int .i64 ((rd_T75 t351 x8_1).f1)]) ?_ 2 _ rfl;(with_reducible repeat (first|refine blk_drewN ?_ _|refine blk_drew ?_|refine blk_alloc ?_ _));refine blk_put (cs:=#[.string ((rd_T75 t351 x8_1).f0.f0),.int .i64 ((rd_T75 t351 x8_1).f0.f1),.string ((rd_T75 t351 x8_1).f0.f2),.int .i64 0]) ?_ 3 _ rfl;(with_reducible repeat (first|refine blk_drewN ?_ _|refine blk_drew ?_|refine blk_alloc ?_ _));refine blk_put (cs:=#[.string ((rd_T75 t351 x8_1).f0.f0),.int .i64 ((rd_T75 t351 x8_1).f0.f1),.string (⟨#[]⟩:ByteArray),.int .i64 0]) ?_ 2 _ rfl;(with_reducible repeat (first|refine blk_drewN ?_ _|refine blk_drew ?_|refine blk_alloc ?_ _));refine blk_put (cs:=#[.string ((rd_T75 t351 x8_1).f0.f0),.int .i64 0,.string (⟨#[]⟩:ByteArray),.int .i64 0]) ?_ 1 _ rfl;(with_reducible repeat (first|refine blk_drewN ?_ _|refine blk_drew ?_|refine blk_alloc ?_ _));refine blk_put (cs:=#[.string (⟨#[]⟩:ByteArray),.int .i64 0,.string (⟨#[]⟩:ByteArray),.int .i64 0]) ?_ 0 _ rfl;(with_reducible repeat (first|refine blk_drewN ?_ _|refine blk_drew ?_|refine blk_alloc ?_ _));exact BK358.out) hg (Kd.R_ne HO_7.out BK358.out (by decide)));have n3_:=Aside0.mk (hb);have n4_:=Aside0.mk (ho);clear HO_357000;clear BK356;clear BK358;clear HB;clear HO_7;have HO_357000:=n0_;have BK356:=n1_;have BK358:=n2_;have HB:=n3_;have HO361:=n4_;clear n0_ n1_ n2_ n3_ n4_;clear ho hb hg hat;have hcz25_0:w24.cell? ⟨gb358,0,none⟩=some (.string ((rd_T75 t351 x8_1).f0.f0)):=(blk_cell BK358.out 0).trans rfl;have hcz25_1:w24.cell? ⟨gb358,1,none⟩=some (.int .i64 ((rd_T75 t351 x8_1).f0.f1)):=(blk_cell BK358.out 1).trans rfl;have hcz25_2:w24.cell? ⟨gb358,2,none⟩=some (.string (a0.extract (x6_1:Int).toNat ((wrap64 (x6_1 + ((rd_T75 t351 x8_1).f1))):Int).toNat)):=(blk_cell BK358.out 2).trans rfl;have hcz25_3:w24.cell? ⟨gb358,3,none⟩=some (.int .i64 ((rd_T75 t351 x8_1).f1)):=(blk_cell BK358.out 3).trans rfl;have hfz25_0:=blk_frozen BK358.out 0;have hfz25_1:=blk_frozen BK358.out 1;have hfz25_2:=blk_frozen BK358.out 2;have hfz25_3:=blk_frozen BK358.out 3;have hq40_:∀ (a_ b_ c_ d_:Value),((((w24.setCell ⟨gb358,0,none⟩ a_).setCell ⟨gb358,1,none⟩ b_).setCell ⟨gb358,2,none⟩ c_).setCell ⟨gb358,3,none⟩ d_).cell? ⟨gb358,0,none⟩=some a_:=fun a_ b_ c_ d_=>(blk_cell (blk_put (blk_put (blk_put (blk_put BK358.out 0 a_ rfl) 1 b_ rfl) 2 c_ rfl) 3 d_ rfl) 0).trans rfl;have hq41_:∀ (a_ b_ c_ d_:Value),((((w24.setCell ⟨gb358,0,none⟩ a_).setCell ⟨gb358,1,none⟩ b_).setCell ⟨gb358,2,none⟩ c_).setCell ⟨gb358,3,none⟩ d_).cell? ⟨gb358,1,none⟩=some b_:=fun a_ b_ c_ d_=>(blk_cell (blk_put (blk_put (blk_put (blk_put BK358.out 0 a_ rfl) 1 b_ rfl) 2 c_ rfl) 3 d_ rfl) 1).trans rfl;have hq42_:∀ (a_ b_ c_ d_:Value),((((w24.setCell ⟨gb358,0,none⟩ a_).setCell ⟨gb358,1,none⟩ b_).setCell ⟨gb358,2,none⟩ c_).setCell ⟨gb358,3,none⟩ d_).cell? ⟨gb358,2,none⟩=some c_:=fun a_ b_ c_ d_=>(blk_cell (blk_put (blk_put (blk_put (blk_put BK358.out 0 a_ rfl) 1 b_ rfl) 2 c_ rfl) 3 d_ rfl) 2).trans rfl;have hq43_:∀ (a_ b_ c_ d_:Value),((((w24.setCell ⟨gb358,0,none⟩ a_).setCell ⟨gb358,1,none⟩ b_).setCell ⟨gb358,2,none⟩ c_).setCell ⟨gb358,3,none⟩ d_).cell? ⟨gb358,3,none⟩=some d_:=fun a_ b_ c_ d_=>(blk_cell (blk_put (blk_put (blk_put (blk_put BK358.out 0 a_ rfl) 1 b_ rfl) 2 c_ rfl) 3 d_ rfl) 3).trans rfl;have hqf4_:∀ (a_ b_ c_ d_:Value),((((w24.setCell ⟨gb358,0,none⟩ a_).setCell ⟨gb358,1,none⟩ b_).setCell ⟨gb358,2,none⟩ c_).setCell ⟨gb358,3,none⟩ d_).frozen? ⟨gb358,2,none⟩=false:=fun a_ b_ c_ d_=>blk_frozen (blk_put (blk_put (blk_put (blk_put BK358.out 0 a_ rfl) 1 b_ rfl) 2 c_ rfl) 3 d_ rfl) 2;have hq50_:∀ (a_ b_ c_ d_ e_:Value),(((((w24.setCell ⟨gb358,0,none⟩ a_).setCell ⟨gb358,1,none⟩ b_).setCell ⟨gb358,2,none⟩ c_).setCell ⟨gb358,3,none⟩ d_).setCell ⟨gb358,2,none⟩ e_).cell? ⟨gb358,0,none⟩=some a_:=fun a_ b_ c_ d_ e_=>(blk_cell (blk_put (blk_put (blk_put (blk_put (blk_put BK358.out 0 a_ rfl) 1 b_ rfl) 2 c_ rfl) 3 d_ rfl) 2 e_ rfl) 0).trans rfl;have hq51_:∀ (a_ b_ c_ d_ e_:Value),(((((w24.setCell ⟨gb358,0,none⟩ a_).setCell ⟨gb358,1,none⟩ b_).setCell ⟨gb358,2,none⟩ c_).setCell ⟨gb358,3,none⟩ d_).setCell ⟨gb358,2,none⟩ e_).cell? ⟨gb358,1,none⟩=some b_:=fun a_ b_ c_ d_ e_=>(blk_cell (blk_put (blk_put (blk_put (blk_put (blk_put BK358.out 0 a_ rfl) 1 b_ rfl) 2 c_ rfl) 3 d_ rfl) 2 e_ rfl) 1).trans rfl;have hq52_:∀ (a_ b_ c_ d_ e_:Value),(((((w24.setCell ⟨gb358,0,none⟩ a_).setCell ⟨gb358,1,none⟩ b_).setCell ⟨gb358,2,none⟩ c_).setCell ⟨gb358,3,none⟩ d_).setCell ⟨gb358,2,none⟩ e_).cell? ⟨gb358,2,none⟩=some e_:=fun a_ b_ c_ d_ e_=>(blk_cell (blk_put (blk_put (blk_put (blk_put (blk_put BK358.out 0 a_ rfl) 1 b_ rfl) 2 c_ rfl) 3 d_ rfl) 2 e_ rfl) 2).trans rfl;have hq53_:∀ (a_ b_ c_ d_ e_:Value),(((((w24.setCell ⟨gb358,0,none⟩ a_).setCell ⟨gb358,1,none⟩ b_).setCell ⟨gb358,2,none⟩ c_).setCell ⟨gb358,3,none⟩ d_).setCell ⟨gb358,2,none⟩ e_).cell? ⟨gb358,3,none⟩=some d_:=fun a_ b_ c_ d_ e_=>(blk_cell (blk_put (blk_put (blk_put (blk_put (blk_put BK358.out 0 a_ rfl) 1 b_ rfl) 2 c_ rfl) 3 d_ rfl) 2 e_ rfl) 3).trans rfl;have hqf5_:∀ (a_ b_ c_ d_ e_:Value),(((((w24.setCell ⟨gb358,0,none⟩ a_).setCell ⟨gb358,1,none⟩ b_).setCell ⟨gb358,2,none⟩ c_).setCell ⟨gb358,3,none⟩ d_).setCell ⟨gb358,2,none⟩ e_).frozen? ⟨gb358,2,none⟩=false:=fun a_ b_ c_ d_ e_=>blk_frozen (blk_put (blk_put (blk_put (blk_put (blk_put BK358.out 0 a_ rfl) 1 b_ rfl) 2 c_ rfl) 3 d_ rfl) 2 e_ rfl) 2));go_roundg k1
            case measure=>have:=HK1.out;omega
            case rel=>exact ⟨(wrap64 (x6_1 + ((rd_T75 t351 x8_1).f1))),(y359),(wrap64 (x8_1 + 1)),(by first|rfl|(simp;done)|(simp [*];done)),(by first|rfl|(simp;done)|(simp [*];done)),H',⟨by have:=HK1.out;omega⟩,⟨by (with_reducible repeat (first|apply Kd.R_alloc|apply Kd.R_drewN|apply Kd.R_drew));exact HO361.out⟩,⟨by (with_reducible repeat (first|apply Kd.R_alloc|apply Kd.R_drewN|apply Kd.R_drew));exact Kd.R_mono HO_357000.out (fun _ hk=>trivial)⟩,⟨by (with_reducible repeat (first|refine blk_drewN ?_ _|refine blk_drew ?_|refine blk_alloc ?_ _));exact BK356.out⟩,⟨by repeat (first|(with_reducible first|exact HB.out|apply bal|apply bdN|apply bd1|refine below_set ?_ GE356.out|refine below_set ?_ GE358.out)|exact HB.out)⟩⟩
           ·rw [if_neg c19] at H;exact absurd H (by simp)
          ·rw [if_neg c18] at H;exact absurd H (by simp)
         ·rw [if_neg c17] at H;exact absurd H (by simp)
        ·rw [if_neg c16] at H;exact absurd H (by simp)
      ·rw [if_neg c10] at H;exact absurd H (by simp)
     ·rw [if_neg c9] at H;have c9b0:decide (x8_1 < (t351.length:Int))=false:=decide_eq_false c9;clear c9;by_cases c26:x6_1 < (a0.size:Int)
      ·rw [if_pos c26] at H;have c26b0:decide (x6_1 < (a0.size:Int))=true:=decide_eq_true c26;clear c26;simp only [Option.some.injEq,Prod.mk.injEq] at H;obtain ⟨rfl,rfl⟩:=H;have hcz27_0:wr.cell? ⟨gb356,0,none⟩=some (.slice Ao7 t351.length co7):=(blk_cell BK356.out 0).trans rfl;have hcz27_1:wr.cell? ⟨gb356,1,none⟩=some (.int .i64 t354):=(blk_cell BK356.out 1).trans rfl;have hfz27_0:=blk_frozen BK356.out 0;have hfz27_1:=blk_frozen BK356.out 1;go_wp2;go_ret2;exact ⟨_,by first|rfl|(simp [errW_none,errW_some] <;> rfl)|(simp [*,errW_none,errW_some] <;> rfl),by first|exact Kd.R_nil _ _ _ _ _|exact Kd.N_nil _ _ _ _ _|exact Kd.V_nil _ _ _ _ _|exact Kd.Q_nil _ _ _ _ _|exact Kd.S_nil _ _ _ _ _,by repeat (first|(with_reducible first|exact HB.out|apply bal|apply bdN|apply bd1|refine below_set ?_ GE356.out)|exact HB.out)⟩
      ·rw [if_neg c26] at H;have c26b0:decide (x6_1 < (a0.size:Int))=false:=decide_eq_false c26;clear c26;simp only [Option.some.injEq,Prod.mk.injEq] at H;obtain ⟨rfl,rfl⟩:=H;have hcz28_0:wr.cell? ⟨gb356,0,none⟩=some (.slice Ao7 t351.length co7):=(blk_cell BK356.out 0).trans rfl;have hcz28_1:wr.cell? ⟨gb356,1,none⟩=some (.int .i64 t354):=(blk_cell BK356.out 1).trans rfl;have hfz28_0:=blk_frozen BK356.out 0;have hfz28_1:=blk_frozen BK356.out 1;go_wp2;go_ret2;exact ⟨_,by first|rfl|(simp [errW_none,errW_some] <;> rfl)|(simp [*,errW_none,errW_some] <;> rfl),by (with_reducible repeat (first|apply Kd.R_alloc|apply Kd.R_drewN|apply Kd.R_drew));exact HO_7.out,by repeat (first|(with_reducible first|exact HB.out|apply bal|apply bdN|apply bd1|refine below_set ?_ GE356.out)|exact HB.out)⟩
  ·rw [if_neg c4] at H;have c4b0:(t355 == 0)=false:=beq_eq_false_iff_ne.mpr c4;have c4b1:(t355 != 0)=true:=bne_iff_ne.mpr c4;simp only [Option.some.injEq,Prod.mk.injEq] at H;obtain ⟨rfl,rfl⟩:=H;go_enter Tryd.func18,Tryd.ntmps18;go_wp2_with (first|((with_reducible refine gate_callee (f:=38) rfl ?_);refine goesL_ (some 15) rfl rfl Tryd.func38 (by kernel_rfl) rfl #[.string a0] rfl (by (try simp only [List.map_toArray,List.map_cons,List.map_nil]);first|done|rfl|(simp only [List.length_drop,List.length_take];rfl)) ?_;(with_reducible refine (barqueref10_Told.calls k a0 t351 t354 t355 _ A3.out).mono ?_);rintro e w29 ⟨v352,rfl,ho0,hb⟩;refine ⟨_,rfl,?_⟩;have n0_:=Aside0.mk (Kd.R_lower ho0 (below_size (by repeat (first|(with_reducible first|exact HB.out|apply bal|apply bdN|apply bd1)|exact HB.out))));have n1_:=Aside0.mk (below_step (by repeat (first|(with_reducible first|exact HB.out|apply bal|apply bdN|apply bd1)|exact HB.out)) hb);clear HB;have HO353:=n0_;have HB:=n1_;clear n0_ n1_;(try clear hb);(try clear hb2);(try clear hk);(try clear hi);(try clear ho0))|((with_reducible refine gate_dst (N:=4) rfl ?_);refine box_event ?hg (N:=4) ?hd (cs:=#[.slice none 0 0,.int .i64 0]) (t:=71) ?hr ?_;(case hd=>rfl);(case hg=>rfl);(case hr=>first|(go_simp;done)|(go_simp;rfl));intro gb356 hg w30 hbox hb;have n0_:=Aside0.mk (Kd.R_below (by (with_reducible repeat (first|apply Kd.R_alloc|apply Kd.R_drewN|apply Kd.R_drew));exact HO353.out) hb);have n1_:=Aside0.mk (below_step (by repeat (first|(with_reducible first|exact HB.out|apply bal|apply bdN|apply bd1)|exact HB.out)) hb);have n2_:=Aside0.mk (hbox);have n3_:=Aside0.mk ((by rw [hg];exact (below_size (by repeat (first|(with_reducible first|exact HB.out|apply bal|apply bdN|apply bd1)|exact HB.out))):w.heap.size≤gb356));have n4_:=Aside0.mk ((by rw [hg];exact (below_size (by repeat (first|(with_reducible first|exact HB.out|apply bal|apply bdN|apply bd1)|exact HB.out))):w.heap.size≤gb356));clear HO353;clear HB;have HO353:=n0_;have HB:=n1_;have BK356:=n2_;have GW356:=n3_;have GE356:=n4_;clear n0_ n1_ n2_ n3_ n4_;clear hb hbox hg;obtain ⟨Ao31,co31,eo31⟩:=Kd.R_slice HO353.out;subst eo31;have hcz32_0:w30.cell? ⟨gb356,0,none⟩=some (.slice none 0 0):=(blk_cell BK356.out 0).trans rfl;have hcz32_1:w30.cell? ⟨gb356,1,none⟩=some (.int .i64 0):=(blk_cell BK356.out 1).trans rfl;have hfz32_0:=blk_frozen BK356.out 0;have hfz32_1:=blk_frozen BK356.out 1));go_ret2;exact ⟨_,by first|rfl|(simp [errW_none,errW_some] <;> rfl)|(simp [*,errW_none,errW_some] <;> rfl),by first|exact Kd.R_nil _ _ _ _ _|exact Kd.N_nil _ _ _ _ _|exact Kd.V_nil _ _ _ _ _|exact Kd.Q_nil _ _ _ _ _|exact Kd.S_nil _ _ _ _ _,by repeat (first|(with_reducible first|exact HB.out|apply bal|apply bdN|apply bd1|refine below_set ?_ GE356.out)|exact HB.out)⟩
end Go.Proofs.YtmeofdpmddjbgaaDoor.G
end
section
namespace Go.Proofs.YtmeofdpmddjbgaaDoor.G
open Go.RowKit Go.Proofs.YtmeofdpmddjbgaaDoorW.PrintWords Go.Proofs.YtmeofdpmddjbgaaDoorW.PrintLast Go.Proofs.YtmeofdpmddjbgaaDoorW.PrintMore
set_option linter.unusedVariables false
set_option linter.unusedSimpArgs false
theorem rdZ_nat (l:List S75) (i:Nat) (h:i < l.length):rd_T75 l (i:Int)=l[i]:=by
 unfold rd_T75
 simp [List.getD_eq_getElem?_getD,h]
theorem rd_nat_ (l:List Int) (i:Nat) (h:i < l.length):rd l (i:Int)=l[i]:=by
 unfold rd
 simp [List.getD_eq_getElem?_getD,h]

def okZ (x:S75):Prop:=0≤x.f1∧x.f1≤65536∧x.f0.f2=⟨#[]⟩
theorem headGo_ok (s:ByteArray):∀ (d:Nat) (fs:List S75) (a:Nat),a≤s.size→(∀ x ∈ fs,okZ x)→(headGo s d fs a).2.1≤s.size∧(headGo s d fs a).1.length≤fs.length + d∧∀ x ∈ (headGo s d fs a).1,okZ x
 | 0,fs,a,ha,hx=>⟨ha,Nat.le_refl _,hx⟩
 | d + 1,fs,a,ha,hx=>by
  rw [headGo]
  have h3:=(fileR_at s a ha).2.2
  have hok:=fileR_ok s a
  obtain ⟨r,hr⟩:∃ r,fileR s a=r:=⟨_,rfl⟩
  rw [hr] at h3 hok ⊢
  by_cases q:r.c.2.2=0
  ·rw [if_pos q]
   obtain ⟨_,_,o3,o4,_⟩:=hok q
   have ih:=headGo_ok s d (fs ++ [⟨⟨r.t.1,r.m.1,⟨#[]⟩⟩,r.c.1⟩]) r.c.2.1 h3 (fun x hm=>by
    rcases List.mem_append.1 hm with h|h
    ·exact hx x h
    ·rw [List.mem_singleton.1 h];exact ⟨o3,o4,rfl⟩)
   refine ⟨ih.1,?_,ih.2.2⟩
   have:=ih.2.1
   rw [List.length_append,List.length_singleton] at this
   omega
  ·rw [if_neg q]
   exact ⟨Nat.zero_le _,Nat.zero_le _,fun x hm=>by cases hm⟩
theorem headE_ok (s:ByteArray):(headE s).2.1≤s.size∧(headE s).1.length≤256∧∀ x ∈ (headE s).1,okZ x:=by
 unfold headE
 have a1:=countS_at s 0 0 256 (Nat.zero_le _)
 have r1:=countS_range s 0 0 256
 have h1:=countS_e s 0 0 256
 obtain ⟨c,hc⟩:∃ c,countS s 0 0 256=c:=⟨_,rfl⟩
 rw [hc] at a1 r1 h1 ⊢
 by_cases q:c.2.2=0
 ·rw [if_pos q]
  have hm:=(h1 q).2
  have:=headGo_ok s c.1.toNat [] c.2.1 a1.2 (fun x hm=>by cases hm)
  obtain ⟨x,hx⟩:∃ x,headGo s c.1.toNat [] c.2.1=x:=⟨_,rfl⟩
  rw [hx] at this ⊢
  rw [List.length_nil] at this
  unfold headFin
  split
  ·split
   ·exact ⟨this.1,by omega,this.2.2⟩
   ·exact ⟨Nat.zero_le _,Nat.zero_le _,fun x hm=>by cases hm⟩
  ·exact ⟨Nat.zero_le _,Nat.zero_le _,fun x hm=>by cases hm⟩
 ·rw [if_neg q]
  exact ⟨Nat.zero_le _,Nat.zero_le _,fun x hm=>by cases hm⟩

def dataGo (s:ByteArray):List S75→Nat→List S33→List S33 × Int
 | [],a,out=>if a < s.size then ([],4) else (out,0)
 | x :: fs,a,out=>if (s.size:Int) - a < x.f1 then ([],3) else dataGo s fs (a + x.f1.toNat) (out ++ [⟨x.f0.f0,x.f0.f1,s.extract a (a + x.f1.toNat)⟩])
def treeE (s:ByteArray):List S33 × Int:=if 524288 < s.size then ([],4) else if (headE s).2.2=0 then dataGo s (headE s).1 (headE s).2.1 [] else ([],(headE s).2.2)
theorem set_mid_ {α:Type} (X Y:List α) (p v:α) (i:Nat) (h:X.length=i):(X ++ p :: Y).set i v=X ++ v :: Y:=by
 subst h
 rw [List.set_append_right _ _ (Nat.le_refl _),Nat.sub_self,List.set_cons_zero]
theorem imagetree_l0 (s:ByteArray) (hs:s.size≤140737488351232) (all:List S75) (hl:all.length≤256) (hok:∀ x ∈ all,okZ x):∀ (d i:Nat) (out:List S33) (a:Nat),all.length - i=d→i≤all.length→out.length=i→a≤s.size →
  Ev (fun k=>image_Tree.l0 k s (out ++ (all.drop i).map (·.f0)) (a:Int) (all.map (·.f1)) (all.length:Int) (i:Int)) (dataGo s (all.drop i) a out):=by
 intro d
 induction d with
 | zero =>
  intro i out a hd hi ho ha
  have e:i=all.length:=by omega
  subst e
  rw [List.drop_length,List.map_nil,List.append_nil]
  apply Ev.step
  ·intro k;rw [image_Tree.l0]
  have c1:¬ ((all.length:Int) < (all.length:Int)):=Int.lt_irrefl _
  simp only [c1,↓reduceIte]
  unfold dataGo
  by_cases q:a < s.size
  ·have q2:(a:Int) < (s.size:Int):=by omega
   simp only [q,q2,↓reduceIte]
   exact Ev.now _
  ·have q2:¬ (a:Int) < (s.size:Int):=by omega
   simp only [q,q2,↓reduceIte]
   exact Ev.now _
 | succ d ih =>
  intro i out a hd hi ho ha
  have hlt:i < all.length:=by omega
  obtain ⟨o1,o2,o3⟩:=hok _ (List.getElem_mem hlt)
  have c1:((i:Int) < (all.length:Int)):=by omega
  have c2:(0:Int)≤(i:Int):=by omega
  have c3:(i:Int) < ((all.map (fun y=>y.f1)).length:Int):=by rw [List.length_map];exact c1
  have c4:(i:Int) < ((out ++ (all.drop i).map (fun y=>y.f0)).length:Int):=by rw [List.length_append,List.length_map,List.length_drop];omega
  have hw:wrap64 ((i:Int) + 1)=((i + 1:Nat):Int):=by rw [w64_ (by omega) (by omega)];omega
  have hr:rd (all.map (fun y=>y.f1)) (i:Int)=(all[i]'hlt).f1:=by rw [rd_nat_ _ i (by rw [List.length_map];exact hlt),List.getElem_map]
  have hf:rd_T33 (out ++ (all.drop i).map (fun y=>y.f0)) (i:Int)=(all[i]'hlt).f0:=by
   rw [rdF_nat _ i (Int.ofNat_lt.1 c4),List.getElem_append_right (Nat.le_of_eq ho),List.getElem_map,List.getElem_drop]
   congr 2
   rw [ho,Nat.sub_self,Nat.add_zero]
  rw [List.drop_eq_getElem_cons hlt] at hf c4 ⊢
  rw [dataGo]
  obtain ⟨x,hx⟩:∃ x,all[i]'hlt=x:=⟨_,rfl⟩
  rw [hx] at o1 o2 o3 hr hf c4 ⊢
  rw [List.map_cons] at hf c4 ⊢
  have c5:(0:Int)≤(a:Int):=by omega
  apply Ev.step
  ·intro k;rw [image_Tree.l0]
  have hsub:wrap64 ((s.size:Int) - (a:Int))=(s.size:Int) - (a:Int):=w64_ (by omega) (by omega)
  by_cases q:(s.size:Int) - (a:Int) < x.f1
  ·have q2:x.f1 > (s.size:Int) - (a:Int):=q
   simp only [c1,c2,c3,hr,hsub,q,q2,↓reduceIte]
   exact Ev.now _
  ·have q2:¬ x.f1 > (s.size:Int) - (a:Int):=q
   have hadd:wrap64 ((a:Int) + x.f1)=((a + x.f1.toNat:Nat):Int):=by rw [w64_ (by omega) (by omega)];omega
   have c6:(a:Int)≤((a + x.f1.toNat:Nat):Int):=by omega
   have c7:((a + x.f1.toNat:Nat):Int)≤(s.size:Int):=by omega
   simp only [c1,c2,c3,c4,c5,c6,c7,hr,hsub,hadd,hf,q,q2,↓reduceIte,hw,Int.toNat_natCast]
   rw [set_mid_ out _ _ _ i ho]
   have:=ih (i + 1) (out ++ [⟨x.f0.f0,x.f0.f1,s.extract a (a + x.f1.toNat)⟩]) (a + x.f1.toNat) (by omega) (by omega) (by rw [List.length_append,List.length_singleton,ho]) (by omega)
   rw [List.append_assoc,List.singleton_append] at this
   exact this
theorem imagetree_ev (s:ByteArray) (hs:s.size≤140737488351232):Ev (fun k=>image_Tree.f k s) (treeE s):=by
 unfold image_Tree.f treeE
 by_cases q:524288 < s.size
 ·have q2:(s.size:Int) > 524288:=by omega
  simp only [q,q2,↓reduceIte]
  exact Ev.now _
 ·have q2:¬ (s.size:Int) > 524288:=by omega
  simp only [q,q2,↓reduceIte]
  refine Ev.bind (imghead_ev s hs) ?_
  unfold imgh
  obtain ⟨h1,h2,h3⟩:=headE_ok s
  obtain ⟨x,hx⟩:∃ x,headE s=x:=⟨_,rfl⟩
  rw [hx] at h1 h2 h3 ⊢
  by_cases g:x.2.2=0
  ·simp only [g,↓reduceIte,List.length_map]
   have:=imagetree_l0 s hs x.1 h2 h3 x.1.length 0 [] x.2.1 (by omega) (by omega) rfl h1
   rw [List.drop_zero,List.nil_append] at this
   exact this
  ·simp only [g,↓reduceIte]
   exact Ev.now _
theorem reftree_l0 (s:ByteArray) (hs:s.size≤140737488351232) (at0:Int) (all:List S75) (hl:all.length≤256) (hok:∀ x ∈ all,okZ x):∀ (d i:Nat) (out:List S33) (a:Nat),all.length - i=d→i≤all.length→out.length=i→a≤s.size →
  Ev (fun k=>barqueref10_Tree.l0 k s (a:Int) out (i:Int) all at0) (dataGo s (all.drop i) a out):=by
 intro d
 induction d with
 | zero =>
  intro i out a hd hi ho ha
  have e:i=all.length:=by omega
  subst e
  rw [List.drop_length]
  apply Ev.step
  ·intro k;rw [barqueref10_Tree.l0]
  have c1:¬ ((all.length:Int) < (all.length:Int)):=Int.lt_irrefl _
  simp only [c1,↓reduceIte]
  unfold dataGo
  by_cases q:a < s.size
  ·have q2:(a:Int) < (s.size:Int):=by omega
   simp only [q,q2,↓reduceIte]
   exact Ev.now _
  ·have q2:¬ (a:Int) < (s.size:Int):=by omega
   simp only [q,q2,↓reduceIte]
   exact Ev.now _
 | succ d ih =>
  intro i out a hd hi ho ha
  have hlt:i < all.length:=by omega
  obtain ⟨o1,o2,o3⟩:=hok _ (List.getElem_mem hlt)
  have c1:((i:Int) < (all.length:Int)):=by omega
  have c2:(0:Int)≤(i:Int):=by omega
  have c4:out.length < 3518437208883:=by omega
  have hw:wrap64 ((i:Int) + 1)=((i + 1:Nat):Int):=by rw [w64_ (by omega) (by omega)];omega
  have hf:rd_T75 all (i:Int)=all[i]'hlt:=rdZ_nat all i hlt
  rw [List.drop_eq_getElem_cons hlt]
  rw [dataGo]
  obtain ⟨x,hx⟩:∃ x,all[i]'hlt=x:=⟨_,rfl⟩
  rw [hx] at o1 o2 o3 hf ⊢
  have c5:(0:Int)≤(a:Int):=by omega
  apply Ev.step
  ·intro k;rw [barqueref10_Tree.l0]
  have hsub:wrap64 ((s.size:Int) - (a:Int))=(s.size:Int) - (a:Int):=w64_ (by omega) (by omega)
  by_cases q:(s.size:Int) - (a:Int) < x.f1
  ·have q2:x.f1 > (s.size:Int) - (a:Int):=q
   simp only [c1,c2,hf,hsub,q,q2,↓reduceIte]
   exact Ev.now _
  ·have q2:¬ x.f1 > (s.size:Int) - (a:Int):=q
   have hadd:wrap64 ((a:Int) + x.f1)=((a + x.f1.toNat:Nat):Int):=by rw [w64_ (by omega) (by omega)];omega
   have c6:(a:Int)≤((a + x.f1.toNat:Nat):Int):=by omega
   have c7:((a + x.f1.toNat:Nat):Int)≤(s.size:Int):=by omega
   simp only [c1,c2,c4,c5,c6,c7,hsub,hadd,hf,q,q2,↓reduceIte,hw,Int.toNat_natCast]
   exact ih (i + 1) (out ++ [⟨x.f0.f0,x.f0.f1,s.extract a (a + x.f1.toNat)⟩]) (a + x.f1.toNat) (by omega) (by omega) (by rw [List.length_append,List.length_singleton,ho]) (by omega)
theorem reftree_ev (s:ByteArray) (hs:s.size≤140737488351232):Ev (fun k=>barqueref10_Tree.f k s) (treeE s):=by
 unfold barqueref10_Tree.f treeE
 by_cases q:524288 < s.size
 ·have q2:(s.size:Int) > 524288:=by omega
  simp only [q,q2,↓reduceIte]
  exact Ev.now _
 ·have q2:¬ (s.size:Int) > 524288:=by omega
  simp only [q,q2,↓reduceIte]
  refine Ev.bind (told_ev s hs) ?_
  unfold toldR
  obtain ⟨h1,h2,h3⟩:=headE_ok s
  obtain ⟨x,hx⟩:∃ x,headE s=x:=⟨_,rfl⟩
  rw [hx] at h1 h2 h3 ⊢
  by_cases g:x.2.2=0
  ·simp only [g,↓reduceIte]
   have:=reftree_l0 s hs x.2.1 x.1 h2 h3 x.1.length 0 [] x.2.1 (by omega) (by omega) rfl h1
   rw [List.drop_zero] at this
   exact this
  ·simp only [g,↓reduceIte]
   exact Ev.now _
theorem cut_f (s:ByteArray):∃ t:ByteArray,t.size≤20000∧barquelaw10_cut.f s=some t:=by
 unfold barquelaw10_cut.f
 by_cases h:(s.size:Int) > 20000
 ·have h2:(20000:Int)≤(s.size:Int):=by omega
  have h3:(0:Int)≤20000:=by decide
  simp only [h,h2,h3,↓reduceIte]
  exact ⟨_,by rw [ByteArray.size_extract];omega,rfl⟩
 ·simp only [h,↓reduceIte]
  exact ⟨s,by omega,rfl⟩
end Go.Proofs.YtmeofdpmddjbgaaDoor.G
end
section
namespace Go.Proofs.YtmeofdpmddjbgaaDoor.G
open Go.RowKit Go.Proofs.YtmeofdpmddjbgaaDoorW.PrintWords Go.Proofs.YtmeofdpmddjbgaaDoorW.PrintLast Go.Proofs.YtmeofdpmddjbgaaDoorW.PrintMore
set_option linter.unusedVariables false
set_option linter.unusedSimpArgs false

def Std (s:ByteArray) (a:Nat) (b:List UInt8) (a2:Nat):Prop:=s.data.toList.drop a=b ++ s.data.toList.drop a2∧a2=a + b.length∧a2≤s.size
theorem Std.trans {s:ByteArray} {a a1 a2:Nat} {b c:List UInt8} (h:Std s a b a1) (k:Std s a1 c a2):Std s a (b ++ c) a2:=by
 obtain ⟨h1,h2,h3⟩:=h
 obtain ⟨k1,k2,k3⟩:=k
 exact ⟨by rw [h1,k1,List.append_assoc],by rw [List.length_append];omega,k3⟩
theorem Std.split {s:ByteArray} {a a2:Nat} {b c:List UInt8} (h:Std s a (b ++ c) a2):Std s a b (a + b.length)∧Std s (a + b.length) c a2:=by
 obtain ⟨h1,h2,h3⟩:=h
 rw [List.length_append] at h2
 have e:s.data.toList.drop (a + b.length)=c ++ s.data.toList.drop a2:=by
  rw [← List.drop_drop,h1,List.append_assoc,List.drop_left]
 exact ⟨⟨by rw [h1,e,List.append_assoc],rfl,by omega⟩,⟨e,by omega,h3⟩⟩
theorem Std.nil (s:ByteArray) (a:Nat) (h:a≤s.size):Std s a [] a:=⟨rfl,rfl,h⟩
theorem Std.cons {s:ByteArray} {a a2:Nat} {c:UInt8} {b:List UInt8} (hlt:a < s.size) (hb:bt s (a:Int)=(c.toNat:Int)) (h:Std s (a + 1) b a2):Std s a (c :: b) a2:=by
 obtain ⟨h1,h2,h3⟩:=h
 have hl:a < s.data.toList.length:=by rw [sz_];exact hlt
 rw [bt_nat s a hlt] at hb
 have e:s.data.toList[a]'hl=c:=UInt8.toNat_inj.1 (Int.ofNat.inj hb)
 refine ⟨?_,by rw [List.length_cons];omega,h3⟩
 rw [List.drop_eq_getElem_cons hl,e,h1,List.cons_append]
def numU (n:Nat):List UInt8:=(numL n).map fun x=>UInt8.ofNat x.toNat
theorem numU_small (n:Nat) (h:n < 128):numU n=[UInt8.ofNat n]:=by
 unfold numU
 rw [numL_small n h]
 rfl
theorem numU_big (n:Nat) (h:¬ n < 128):numU n=UInt8.ofNat (n % 128 + 128) :: numU (n / 128):=by
 unfold numU
 rw [numL_big n h]
 rfl
theorem numB_numU (n:Nat) (h:n≤4611686018427387903):numB (n:Int)=numU n:=by
 unfold numB numE
 rw [if_neg (by omega),Int.toNat_natCast]
 exact strOfNums_data _
theorem ofNat_toNat_ (n:Nat) (h:n < 256):(UInt8.ofNat n).toNat=n:=by
 rw [UInt8.toNat_ofNat']
 omega
theorem extract_list_ (s:ByteArray) (a b:Nat):(s.extract a b).data.toList=(s.data.toList.take b).drop a:=by rw [extract_ba]
theorem numGo_bwd (s:ByteArray):∀ (d i n a:Nat),9 - i=d→i≤8→a≤s.size→(numGo s d i n a).2.2=0→∃ x:Nat,(numGo s d i n a).1=((n + x * 128 ^ i:Nat):Int)∧(i=0∨0 < x)∧x * 128 ^ i < 4611686018427387904∧Std s a (numU x) (numGo s d i n a).2.1:=by
 intro d
 induction d with
 | zero=>intro i n a hd hi;omega
 | succ d ih =>
  intro i n a hd hi ha h
  unfold numGo at h ⊢
  by_cases c:a < s.size
  ·rw [if_pos c] at h ⊢
   obtain ⟨b,hb⟩:∃ b:Nat,bt s (a:Int)=(b:Int):=⟨(bt s (a:Int)).toNat,by have:=bt_range s (a:Int);omega⟩
   have hb5:b≤255:=by have:=bt_range s (a:Int);omega
   rw [hb,Int.toNat_natCast] at h ⊢
   by_cases c1:(i=8∧63 < b)∨(0 < i∧b=0)
   ·rw [if_pos c1] at h
    exact absurd h (by show ¬ (5:Int)=0;decide)
   ·rw [if_neg c1] at h ⊢
    have hP:128 ^ i≤72057594037927936:=Nat.le_trans (Nat.pow_le_pow_right (by decide) hi) (by decide)
    by_cases c2:b < 128
    ·rw [if_pos c2] at h ⊢
     refine ⟨b,?_,?_,?_,?_⟩
     ·rw [Nat.mod_eq_of_lt c2]
     ·omega
     ·by_cases e8:i=8
      ·subst e8;omega
      ·have hP7:128 ^ i≤562949953421312:=Nat.le_trans (Nat.pow_le_pow_right (by decide) (by omega:i≤7)) (by decide)
       have:b * 128 ^ i≤127 * 128 ^ i:=Nat.mul_le_mul_right _ (by omega)
       omega
     ·rw [numU_small b c2]
      exact Std.cons c (by rw [hb,ofNat_toNat_ b (by omega)]) (Std.nil s (a + 1) c)
    ·rw [if_neg c2] at h ⊢
     have e8:i ≠ 8:=fun e=>c2 (by omega)
     obtain ⟨x,h1,h2,h3,h4⟩:=ih (i + 1) (n + b % 128 * 128 ^ i) (a + 1) (by omega) (by omega) c h
     have hx:0 < x:=h2.resolve_left (by omega)
     have hp:(b % 128 + 128 * x) * 128 ^ i=b % 128 * 128 ^ i + x * 128 ^ (i + 1):=by
      rw [Nat.add_mul,Nat.pow_succ,Nat.mul_comm 128 x,Nat.mul_assoc,Nat.mul_comm 128 (128 ^ i)]
     refine ⟨b % 128 + 128 * x,?_,.inr (by omega),?_,?_⟩
     ·rw [h1,hp,Nat.add_assoc]
     ·rw [hp]
      have hb127:b % 128 * 128 ^ i≤127 * 128 ^ i:=Nat.mul_le_mul_right _ (by omega)
      have hpow:(128:Nat) ^ (i + 1)=128 ^ i * 128:=Nat.pow_succ ..
      obtain ⟨e,he⟩:∃ e,8=i + 1 + e:=⟨8 - (i + 1),by omega⟩
      have hdv:4611686018427387904=64 * 128 ^ e * 128 ^ (i + 1):=by
       rw [Nat.mul_assoc,← Nat.pow_add,show e + (i + 1)=8 by omega]
      rw [hdv] at h3 ⊢
      have hlt:x < 64 * 128 ^ e:=Nat.lt_of_mul_lt_mul_right h3
      have hle:(x + 1) * 128 ^ (i + 1)≤64 * 128 ^ e * 128 ^ (i + 1):=Nat.mul_le_mul_right _ hlt
      rw [Nat.add_mul,Nat.one_mul] at hle
      have hpos:0 < (128:Nat) ^ i:=Nat.pow_pos (by decide)
      omega
     ·rw [numU_big _ (by omega)]
      have e1:(b % 128 + 128 * x) % 128 + 128=b:=by omega
      have e2:(b % 128 + 128 * x) / 128=x:=by omega
      rw [e1,e2]
      exact Std.cons c (by rw [hb,ofNat_toNat_ b (by omega)]) h4
  ·rw [if_neg c] at h
   exact absurd h (by show ¬ (3:Int)=0;decide)
theorem numS_bwd (s:ByteArray) (a:Nat) (e:Int) (ha:a≤s.size) (h:(numS s a e).2.2=0):Std s a (numB (numS s a e).1) (numS s a e).2.1∧0≤(numS s a e).1∧(numS s a e).1≤4611686018427387903:=by
 have hr:=numS_range s a e
 unfold numS at h hr ⊢
 by_cases c:e=0
 ·rw [if_pos c] at h hr ⊢
  obtain ⟨x,h1,h2,h3,h4⟩:=numGo_bwd s 9 0 0 a rfl (by decide) ha h
  simp only [Nat.pow_zero,Nat.mul_one,Nat.zero_add] at h1 h3
  refine ⟨?_,hr⟩
  rw [h1,numB_numU x (by omega)]
  exact h4
 ·rw [if_neg c] at h
  exact absurd h c
theorem countS_bwd (s:ByteArray) (a:Nat) (e most:Int) (ha:a≤s.size) (h:(countS s a e most).2.2=0):Std s a (numB (countS s a e most).1) (countS s a e most).2.1:=by
 unfold countS at h ⊢
 by_cases c:(numS s a e).2.2=0∧most < (numS s a e).1
 ·rw [if_pos c] at h
  exact absurd h (by show ¬ (4:Int)=0;decide)
 ·rw [if_neg c] at h ⊢
  exact (numS_bwd s a e ha h).1
theorem rawS_bwd (s:ByteArray) (a:Nat) (e n:Int) (ha:a≤s.size) (h:(rawS s a e n).2.2=0):Std s a (rawS s a e n).1.data.toList (rawS s a e n).2.1∧((rawS s a e n).1.size:Int)=n:=by
 unfold rawS at h ⊢
 by_cases c:e=0
 ·rw [if_pos c] at h ⊢
  by_cases c1:n < 0
  ·rw [if_pos c1] at h
   exact absurd h (by show ¬ (1:Int)=0;decide)
  ·rw [if_neg c1] at h ⊢
   by_cases c2:(s.size:Int) - a < n
   ·rw [if_pos c2] at h
    exact absurd h (by show ¬ (3:Int)=0;decide)
   ·rw [if_neg c2]
    have hl:((s.data.toList.take (a + n.toNat)).drop a).length=n.toNat:=by
     rw [List.length_drop,List.length_take,sz_]
     omega
    refine ⟨⟨?_,?_,?_⟩,?_⟩
    ·show s.data.toList.drop a=(s.extract a (a + n.toNat)).data.toList ++ s.data.toList.drop (a + n.toNat)
     rw [extract_list_,List.drop_take,Nat.add_sub_cancel_left,← List.drop_drop,List.take_append_drop]
    ·show a + n.toNat=a + (s.extract a (a + n.toNat)).data.toList.length
     rw [extract_list_,hl]
    ·show a + n.toNat≤s.size
     omega
    ·show ((s.extract a (a + n.toNat)).size:Int)=n
     rw [ByteArray.size_extract]
     omega
 ·rw [if_neg c] at h
  exact absurd h c
end Go.Proofs.YtmeofdpmddjbgaaDoor.G
end
section
namespace Go.Proofs.YtmeofdpmddjbgaaDoor.G
open Go.RowKit Go.Proofs.YtmeofdpmddjbgaaDoorW.PrintWords Go.Proofs.YtmeofdpmddjbgaaDoorW.PrintLast Go.Proofs.YtmeofdpmddjbgaaDoorW.PrintMore
set_option linter.unusedVariables false
set_option linter.unusedSimpArgs false
theorem textS_bwd (s:ByteArray) (a:Nat) (e most:Int) (ha:a≤s.size) (h:(textS s a e most).2.2=0):Std s a (numB ((textS s a e most).1.size:Int) ++ (textS s a e most).1.data.toList) (textS s a e most).2.1:=by
 unfold textS at h ⊢
 have hc:=countS_at s a e most ha
 have h0:=rawS_e s _ _ _ h
 have h1:=countS_bwd s a e most ha h0
 obtain ⟨h2,h3⟩:=rawS_bwd s _ _ _ hc.2 h
 rw [← h3] at h1
 exact h1.trans h2
def strip (x:S33):S75:=⟨⟨x.f0,x.f1,⟨#[]⟩⟩,(x.f2.size:Int)⟩
def headZ:List S75→List UInt8
 | []=>[]
 | x :: l=>numB (x.f0.f0.size:Int) ++ x.f0.f0.data.toList ++ numB x.f0.f1 ++ numB x.f1 ++ headZ l
theorem headZ_strip:∀ l:List S33,headZ (l.map strip)=headL l
 | []=>rfl
 | x :: l=>by rw [List.map_cons,headZ,headL,headZ_strip l];rfl
theorem strip_f0 (l:List S33):((l.map strip).map (·.f0)).map (·.f0)=l.map (·.f0):=by rw [List.map_map,List.map_map];rfl
theorem modes_unstrip:∀ l:List S33,(∀ x ∈ l,x.f2.size≤65536)→modesE ((l.map strip).map (·.f0))=0→modesE l=0
 | [],_,_=>rfl
 | x :: l,hx,h=>by
  rw [modesE]
  rw [List.map_cons,List.map_cons,modesE] at h
  by_cases c:x.f1 < 0∨511 < x.f1
  ·rw [if_pos (show (strip x).f0.f1 < 0∨511 < (strip x).f0.f1 from c)] at h;exact absurd h (by decide)
  ·rw [if_neg (show ¬ ((strip x).f0.f1 < 0∨511 < (strip x).f0.f1) from c),if_neg (show ¬ 65536 < (strip x).f0.f2.size from (by decide:¬ 65536 < (⟨#[]⟩:ByteArray).size))] at h
   rw [if_neg c,if_neg (Nat.not_lt.2 (hx x List.mem_cons_self))]
   exact modes_unstrip l (fun y hy=>hx y (List.mem_cons_of_mem _ hy)) h
theorem check_unstrip (l:List S33) (hx:∀ x ∈ l,x.f2.size≤65536) (h:checkE ((l.map strip).map (·.f0))=0):checkE l=0:=by
 obtain ⟨h1,h2⟩:=check_ok _ h
 rw [strip_f0] at h1
 unfold checkE
 rw [if_pos h1]
 exact modes_unstrip l hx h2
theorem fileR_bwd (s:ByteArray) (a:Nat) (ha:a≤s.size) (h:(fileR s a).c.2.2=0) :
  Std s a (numB ((fileR s a).t.1.size:Int) ++ (fileR s a).t.1.data.toList ++ numB (fileR s a).m.1 ++ numB (fileR s a).c.1) (fileR s a).c.2.1:=by
 obtain ⟨e1,e2,e3⟩:=fileR_eqs s a
 obtain ⟨a1,a2,a3⟩:=fileR_at s a ha
 obtain ⟨o1,o2,_⟩:=fileR_ok s a h
 have b1:=textS_bwd s a 0 200 ha (by rw [← e1];exact o1)
 rw [← e1] at b1
 have b2:=(numS_bwd s _ _ a1 (by rw [← e2];exact o2)).1
 rw [← e2] at b2
 have b3:=countS_bwd s _ _ 65536 a2 (by rw [← e3];exact h)
 rw [← e3] at b3
 exact (b1.trans b2).trans b3
theorem headGo_bwd (s:ByteArray):∀ (d:Nat) (fs:List S75) (a:Nat),a≤s.size→(headGo s d fs a).2.2=0→∃ l:List S75,(headGo s d fs a).1=fs ++ l∧l.length=d∧Std s a (headZ l) (headGo s d fs a).2.1
 | 0,fs,a,ha,_=>⟨[],by rw [List.append_nil];rfl,rfl,Std.nil s a ha⟩
 | d + 1,fs,a,ha,h=>by
  rw [headGo] at h ⊢
  by_cases q:(fileR s a).c.2.2=0
  ·rw [if_pos q] at h ⊢
   obtain ⟨l,l1,l2,l3⟩:=headGo_bwd s d _ _ (fileR_at s a ha).2.2 h
   refine ⟨⟨⟨(fileR s a).t.1,(fileR s a).m.1,⟨#[]⟩⟩,(fileR s a).c.1⟩ :: l,by rw [l1,List.append_assoc,List.singleton_append],by rw [List.length_cons,l2],?_⟩
   rw [headZ]
   exact (fileR_bwd s a ha q).trans l3
  ·rw [if_neg q] at h
   exact absurd h q
theorem std_extract (s:ByteArray) (a b:Nat) (h:a≤b) (h2:b≤s.size):Std s a (s.extract a b).data.toList b:=by
 have hlen:(s.extract a b).data.toList.length=b - a:=by rw [sz_,ByteArray.size_extract];omega
 refine ⟨?_,by omega,h2⟩
 rw [extract_list_,List.drop_take]
 have e:s.data.toList.drop b=(s.data.toList.drop a).drop (b - a):=by rw [List.drop_drop];congr 1;omega
 rw [e,List.take_append_drop]
theorem dataGo_bwd (s:ByteArray):∀ (fs:List S75) (a:Nat) (out:List S33),a≤s.size→(∀ x ∈ fs,okZ x)→(dataGo s fs a out).2=0→∃ l:List S33,(dataGo s fs a out).1=out ++ l∧l.map strip=fs∧Std s a (dataL l) s.size∧∀ x ∈ l,x.f2.size≤65536
 | [],a,out,ha,_,h=>by
  rw [dataGo] at h ⊢
  by_cases q:a < s.size
  ·rw [if_pos q] at h;exact absurd h (by decide)
  ·rw [if_neg q]
   have e:a=s.size:=by omega
   subst e
   exact ⟨[],by rw [List.append_nil],rfl,Std.nil s _ (Nat.le_refl _),fun x hx=>by cases hx⟩
 | x :: fs,a,out,ha,hok,h=>by
  rw [dataGo] at h ⊢
  obtain ⟨o1,o2,o3⟩:=hok x List.mem_cons_self
  by_cases q:(s.size:Int) - a < x.f1
  ·rw [if_pos q] at h;exact absurd h (by decide)
  ·rw [if_neg q] at h ⊢
   have hb:a + x.f1.toNat≤s.size:=by omega
   obtain ⟨l,l1,l2,l3,l4⟩:=dataGo_bwd s fs (a + x.f1.toNat) _ hb (fun y hy=>hok y (List.mem_cons_of_mem _ hy)) h
   have hse:=std_extract s a (a + x.f1.toNat) (Nat.le_add_right _ _) hb
   have hsz:(s.extract a (a + x.f1.toNat)).size=x.f1.toNat:=by rw [ByteArray.size_extract];omega
   refine ⟨⟨x.f0.f0,x.f0.f1,s.extract a (a + x.f1.toNat)⟩ :: l,by rw [l1,List.append_assoc,List.singleton_append],?_,?_,?_⟩
   ·rw [List.map_cons,l2]
    congr 1
    unfold strip
    obtain ⟨⟨p,m,e⟩,z⟩:=x
    simp only at o1 o3 hsz ⊢
    rw [hsz,o3]
    congr 1
    omega
   ·rw [dataL]
    exact hse.trans l3
   ·intro y hy
    rcases List.mem_cons.1 hy with e|e
    ·rw [e]
     show (s.extract a (a + x.f1.toNat)).size≤65536
     omega
    ·exact l4 y e
theorem image_tree (s:ByteArray) (h:(treeE s).2=0):imageE (treeE s).1=(s,0):=by
 obtain ⟨z1,z2,z3⟩:=headE_ok s
 unfold treeE at h ⊢
 by_cases c0:524288 < s.size
 case pos=>rw [if_pos c0] at h;exact absurd h (by decide)
 rw [if_neg c0] at h ⊢
 by_cases c1:(headE s).2.2=0
 case neg=>rw [if_neg c1] at h;exact absurd h c1
 rw [if_pos c1] at h ⊢
 obtain ⟨l,l1,l2,l3,l4⟩:=dataGo_bwd s _ _ _ z1 z3 h
 rw [List.nil_append] at l1
 rw [l1]
 have hh:headE s=headFin (headGo s (countS s 0 0 256).1.toNat [] (countS s 0 0 256).2.1)∧(countS s 0 0 256).2.2=0:=by
  unfold headE at c1 ⊢
  by_cases c:(countS s 0 0 256).2.2=0
  ·rw [if_pos c];exact ⟨rfl,c⟩
  ·rw [if_neg c] at c1;exact absurd c1 c
 obtain ⟨hh,c⟩:=hh
 have hc:=countS_e s 0 0 256 c
 have hr:=countS_range s 0 0 256
 have b1:=countS_bwd s 0 0 256 (Nat.zero_le _) c
 have ha:=(countS_at s 0 0 256 (Nat.zero_le _)).2
 have hg:=headGo_bwd s (countS s 0 0 256).1.toNat [] _ ha
 obtain ⟨x,hx⟩:∃ x,headGo s (countS s 0 0 256).1.toNat [] (countS s 0 0 256).2.1=x:=⟨_,rfl⟩
 rw [hx] at hh hg
 have hf:x.2.2=0∧checkE (x.1.map (·.f0))=0∧headE s=x:=by
  rw [hh] at c1 ⊢
  unfold headFin at c1 ⊢
  by_cases g:x.2.2=0
  ·rw [if_pos g] at c1 ⊢
   by_cases g2:checkE (x.1.map (·.f0))=0
   ·rw [if_pos g2];exact ⟨g,g2,rfl⟩
   ·rw [if_neg g2] at c1;exact absurd c1 g2
  ·rw [if_neg g] at c1;exact absurd c1 g
 obtain ⟨g1,g2,g3⟩:=hf
 obtain ⟨m,m1,m2,m3⟩:=hg g1
 rw [List.nil_append] at m1
 rw [g3] at l2 l3
 rw [m1] at l2 g2
 rw [← l2] at g2 m3
 rw [headZ_strip] at m3
 have hlen:(l.length:Int)=(countS s 0 0 256).1:=by
  have:l.length=m.length:=by rw [← l2,List.length_map]
  rw [this,m2]
  omega
 rw [← hlen] at b1
 have hck:=check_unstrip l l4 g2
 obtain ⟨t1,t2,t3⟩:=(b1.trans m3).trans l3
 rw [List.drop_zero,List.drop_eq_nil_of_le (by rw [sz_];exact Nat.le_refl _),List.append_nil] at t1
 have hbl:bodyL l=s.data.toList:=t1.symm
 unfold imageE
 rw [if_pos hck,hbl,if_neg (by rw [sz_];exact c0)]
theorem toListE_ (a b:ByteArray):(a.toList=b.toList) ↔ a=b:=⟨fun h=>ba_ext (by rw [toList_data_,toList_data_] at h;exact h),fun h=>by rw [h]⟩
end Go.Proofs.YtmeofdpmddjbgaaDoor.G
end
section
namespace Go.Proofs.YtmeofdpmddjbgaaDoor.G
open Go.RowKit Go.Proofs.YtmeofdpmddjbgaaDoorW.PrintWords Go.Proofs.YtmeofdpmddjbgaaDoorW.PrintLast Go.Proofs.YtmeofdpmddjbgaaDoorW.PrintMore
set_option linter.unusedVariables false
set_option linter.unusedSimpArgs false
section
variable {α:Type} (key:α→ByteArray)

abbrev ahead (x y:α):Prop:=ltP (key x) (key y)

def mergeL:List α→List α→List α
 | [],B=>B
 | a :: A,[]=>a :: A
 | a :: A,b :: B=>if ahead key b a then b :: mergeL (a :: A) B else a :: mergeL A (b :: B)
termination_by A B=>A.length + B.length
theorem mergeL_nil (A:List α):mergeL key A []=A:=by cases A <;> rw [mergeL]
theorem nil_mergeL (B:List α):mergeL key [] B=B:=by rw [mergeL]
theorem mergeL_cons (a b:α) (A B:List α):mergeL key (a :: A) (b :: B)=if ahead key b a then b :: mergeL key (a :: A) B else a :: mergeL key A (b :: B):=by rw [mergeL]
theorem mergeL_length:∀ (n:Nat) (A B:List α),A.length + B.length=n→(mergeL key A B).length=A.length + B.length
 | _,[],B,_=>by rw [nil_mergeL];simp
 | _,a :: A,[],_=>by rw [mergeL_nil];simp
 | 0,a :: A,b :: B,h=>by simp at h
 | n + 1,a :: A,b :: B,h=>by
  rw [mergeL_cons]
  simp only [List.length_cons] at h
  split
  ·rw [List.length_cons,mergeL_length n (a :: A) B (by simp only [List.length_cons];omega)]
   simp only [List.length_cons];omega
  ·rw [List.length_cons,mergeL_length n A (b :: B) (by simp only [List.length_cons];omega)]
   simp only [List.length_cons];omega

theorem mergeL_split:∀ (n:Nat) (A1 A2 B1 B2:List α),A1.length + B1.length=n→(∀ x ∈ A1,∀ y ∈ B2,¬ ahead key y x)→(∀ y ∈ B1,∀ x ∈ A2,ahead key y x) →
  mergeL key (A1 ++ A2) (B1 ++ B2)=mergeL key A1 B1 ++ mergeL key A2 B2
 | _,[],A2,[],B2,_,_,_=>by rw [nil_mergeL];rfl
 | 0,[],_,_ :: _,_,h,_,_=>by simp at h
 | 0,_ :: _,_,_,_,h,_,_=>by simp only [List.length_cons] at h;omega
 | n + 1,[],A2,b :: B1,B2,h,h1,h2=>by
  rw [nil_mergeL]
  cases A2 with
  | nil=>rw [List.nil_append,nil_mergeL,nil_mergeL]
  | cons a A2 =>
   have hba:=h2 b List.mem_cons_self a List.mem_cons_self
   have ih:=mergeL_split n [] (a :: A2) B1 B2 (by simpa using h) (fun x hx=>by cases hx) (fun y hy=>h2 y (List.mem_cons_of_mem _ hy))
   rw [nil_mergeL,List.nil_append] at ih
   rw [List.nil_append,List.cons_append,mergeL_cons,if_pos hba,ih]
   rfl
 | n + 1,a :: A1,A2,[],B2,h,h1,h2=>by
  rw [mergeL_nil,List.nil_append]
  cases B2 with
  | nil=>rw [mergeL_nil,mergeL_nil]
  | cons b B2 =>
   have hba:=h1 a List.mem_cons_self b List.mem_cons_self
   have ih:=mergeL_split n A1 A2 [] (b :: B2) (by simpa using h) (fun x hx=>h1 x (List.mem_cons_of_mem _ hx)) (fun y hy=>by cases hy)
   rw [mergeL_nil,List.nil_append] at ih
   rw [List.cons_append,mergeL_cons,if_neg hba,ih]
   rfl
 | n + 1,a :: A1,A2,b :: B1,B2,h,h1,h2=>by
  simp only [List.length_cons] at h
  rw [List.cons_append,List.cons_append,mergeL_cons,mergeL_cons]
  by_cases c:ahead key b a
  ·rw [if_pos c,if_pos c]
   have ih:=mergeL_split n (a :: A1) A2 B1 B2 (by simp only [List.length_cons];omega) h1 (fun y hy=>h2 y (List.mem_cons_of_mem _ hy))
   rw [List.cons_append] at ih
   rw [ih]
   rfl
  ·rw [if_neg c,if_neg c]
   have ih:=mergeL_split n A1 A2 (b :: B1) B2 (by simp only [List.length_cons];omega) (fun x hx=>h1 x (List.mem_cons_of_mem _ hx)) h2
   rw [List.cons_append] at ih
   rw [ih]
   rfl

abbrev SortedW (l:List α):Prop:=l.Pairwise (fun x y=>¬ ahead key y x)
theorem insK_mergeL (x:α):∀ (n:Nat) (S T:List α),S.length + T.length=n→insK key x (mergeL key S T)=mergeL key S (insK key x T)
 | _,[],T,_=>by rw [nil_mergeL,nil_mergeL]
 | 0,_ :: _,_,h=>by simp only [List.length_cons] at h;omega
 | n + 1,s :: S,[],h=>by
  have ih:=insK_mergeL x n S [] (by simpa using h)
  rw [mergeL_nil] at ih ⊢
  rw [show insK key x ([]:List α)=[x] from rfl] at ih ⊢
  rw [mergeL_cons,mergeL_nil]
  unfold insK
  by_cases c:ltP (key x) (key s)
  ·rw [if_pos c,if_pos c]
  ·rw [if_neg c,if_neg c,ih]
 | n + 1,s :: S,t :: T,h=>by
  simp only [List.length_cons] at h
  by_cases ct:ahead key t s
  ·rw [mergeL_cons,if_pos ct]
   have ih:=insK_mergeL x n (s :: S) T (by simp only [List.length_cons];omega)
   by_cases cx:ltP (key x) (key t)
   ·rw [insK,if_pos cx,insK,if_pos cx,mergeL_cons,if_pos (ltP_trans cx ct),mergeL_cons,if_pos ct]
   ·rw [insK,if_neg cx,insK,if_neg cx,mergeL_cons,if_pos ct,ih]
  ·rw [mergeL_cons,if_neg ct]
   have ih:=insK_mergeL x n S (t :: T) (by simp only [List.length_cons];omega)
   by_cases cs:ltP (key x) (key s)
   ·have cx:ltP (key x) (key t):=ltP_of_lt_le cs ct
    rw [insK,if_pos cs,insK,if_pos cx,mergeL_cons,if_pos cs,mergeL_cons,if_neg ct]
   ·rw [insK,if_neg cs,ih]
    by_cases cx:ltP (key x) (key t)
    ·rw [insK,if_pos cx,mergeL_cons,if_neg cs]
    ·rw [insK,if_neg cx,mergeL_cons,if_neg ct]
theorem sortK_snoc (l:List α) (x:α):sortK key (l ++ [x])=insK key x (sortK key l):=by unfold sortK;rw [List.foldl_append];rfl
theorem foldl_mergeL (B:List α):∀ S:List α,B.foldl (fun acc x=>insK key x acc) S=mergeL key S (sortK key B):=by
 have h:∀ R:List α,∀ S:List α,R.reverse.foldl (fun acc x=>insK key x acc) S=mergeL key S (sortK key R.reverse):=by
  intro R
  induction R with
  | nil=>intro S;exact (mergeL_nil key S).symm
  | cons x R ih =>
   intro S
   rw [List.reverse_cons,sortK_snoc,List.foldl_append,List.foldl_cons,List.foldl_nil,ih S,insK_mergeL key x _ _ _ rfl]
 have:=h B.reverse
 rwa [List.reverse_reverse] at this
theorem sortK_append (A B:List α):sortK key (A ++ B)=mergeL key (sortK key A) (sortK key B):=by
 rw [show sortK key (A ++ B)=B.foldl (fun acc x=>insK key x acc) (sortK key A) from by unfold sortK;rw [List.foldl_append],foldl_mergeL]
theorem ltP_le_trans {p q r:ByteArray} (h:¬ ltP q p) (k:¬ ltP r q):¬ ltP r p:=fun e=>h (ltP_of_le_lt k e)
theorem insK_sortedW (x:α):∀ l:List α,SortedW key l→SortedW key (insK key x l)
 | [],_=>by simp [insK]
 | y :: l,h=>by
  obtain ⟨h1,h2⟩:=List.pairwise_cons.1 h
  unfold insK
  split
  ·rename_i hlt
   exact List.pairwise_cons.2 ⟨fun z hz=>by
    rcases List.mem_cons.1 hz with e|e
    ·rw [e];exact ltP_asymm hlt
    ·exact ltP_le_trans (ltP_asymm hlt) (h1 z e),h⟩
  ·rename_i hlt
   refine List.pairwise_cons.2 ⟨fun z hz=>?_,insK_sortedW x l h2⟩
   rcases (insK_mem key x z l).1 hz with e|e
   ·rw [e];exact hlt
   ·exact h1 z e
theorem sortK_sortedW (l:List α):SortedW key (sortK key l):=by
 have:∀ (l S:List α),SortedW key S→SortedW key (l.foldl (fun acc x=>insK key x acc) S):=by
  intro l
  induction l with
  | nil=>intro S h;exact h
  | cons x l ih=>intro S h;exact ih _ (insK_sortedW key x S h)
 exact this l [] List.Pairwise.nil
theorem sortK_length_ (l:List α):(sortK key l).length=l.length:=by
 have:∀ (l S:List α),(l.foldl (fun acc x=>insK key x acc) S).length=S.length + l.length:=by
  intro l
  induction l with
  | nil=>intro S;rfl
  | cons x l ih=>intro S;rw [List.foldl_cons,ih,insK_length,List.length_cons];omega
 rw [sortK,this]
 simp

theorem insK_snoc_lt (x y:α):∀ S:List α,ltP (key x) (key y)→insK key x (S ++ [y])=insK key x S ++ [y]
 | [],h=>by simp [insK,h]
 | s :: S,h=>by
  rw [List.cons_append,insK,insK]
  split
  ·rfl
  ·rw [insK_snoc_lt x y S h];rfl
theorem insK_last (x:α):∀ S:List α,(∀ s ∈ S,¬ ltP (key x) (key s))→insK key x S=S ++ [x]
 | [],_=>rfl
 | s :: S,h=>by rw [insK,if_neg (h s List.mem_cons_self),insK_last x S (fun z hz=>h z (List.mem_cons_of_mem _ hz))];rfl
theorem insK_snoc_ge (x y:α) (S:List α) (hs:SortedW key (S ++ [y])) (h:¬ ltP (key x) (key y)):insK key x (S ++ [y])=S ++ [y,x]:=by
 rw [insK_last key x (S ++ [y])]
 ·simp
 ·intro s hm
  rcases List.mem_append.1 hm with e|e
  ·exact ltP_le_trans ((List.pairwise_append.1 hs).2.2 s e y List.mem_cons_self) h
  ·rw [List.mem_singleton.1 e];exact h

def parts (bs:Nat) (l:List α):List α:=if h:bs=0∨l.length≤bs then sortK key l else sortK key (l.take bs) ++ parts bs (l.drop bs)
termination_by l.length
decreasing_by simp only [List.length_drop];omega
theorem parts_short (bs:Nat) (l:List α) (h:l.length≤bs):parts key bs l=sortK key l:=by rw [parts,dif_pos (.inr h)]
theorem parts_long (bs:Nat) (l:List α) (h0:0 < bs) (h:bs≤l.length):parts key bs l=sortK key (l.take bs) ++ parts key bs (l.drop bs):=by
 by_cases c:l.length≤bs
 ·have e:l.length=bs:=by omega
  rw [parts_short key bs l c,List.take_of_length_le (by omega),List.drop_eq_nil_of_le (by omega),parts_short key bs [] (by simp)]
  simp [sortK]
 ·rw [parts,dif_neg (by omega)]
theorem parts_length (bs:Nat) (h0:0 < bs):∀ (n:Nat) (l:List α),l.length≤n→(parts key bs l).length=l.length
 | n,l,hn=>by
  by_cases c:l.length≤bs
  ·rw [parts_short key bs l c,sortK_length_]
  ·match n with
   | 0=>omega
   | n + 1 =>
    rw [parts_long key bs l h0 (by omega),List.length_append,sortK_length_,parts_length bs h0 n (l.drop bs) (by rw [List.length_drop];omega),List.length_take,List.length_drop]
    omega
end
end Go.Proofs.YtmeofdpmddjbgaaDoor.G
end
section
namespace Go.Proofs.YtmeofdpmddjbgaaDoor.G
open Go.RowKit Go.Proofs.YtmeofdpmddjbgaaDoorW.PrintWords Go.Proofs.YtmeofdpmddjbgaaDoorW.PrintLast Go.Proofs.YtmeofdpmddjbgaaDoorW.PrintMore
attribute [local go_sem] max2_int min2_int max_two min_two max_three min_three max_four min_four   
set_option linter.unusedVariables false
set_option linter.unusedSimpArgs false
mutual
def barqueref09_Sort.l0:Nat→List (S33)→List (S33)→Int→Option ((List (S33)))
 | 0,_,_,_=>none
 | k + 1,x0,x3,x4=>if x4 < (x0.length:Int) then (barqueref09_Sort.l1 k x0 x3 x4 ([]:List (S33)) false 0) else (some x3)
def barqueref09_Sort.l1:Nat→List (S33)→List (S33)→Int→List (S33)→Bool→Int→Option ((List (S33)))
 | 0,_,_,_,_,_,_=>none
 | k + 1,x0,x3,x4,x5,x6,x7=>if x7 < (x3.length:Int) then (if x6=true then (if 0≤x7 then (if x5.length < 3518437208883 then (barqueref09_Sort.l1 k x0 x3 x4 (x5 ++ [(⟨(rd_T33 x3 x7).f0,(rd_T33 x3 x7).f1,(rd_T33 x3 x7).f2⟩:S33)]) x6 (wrap64 (x7 + 1))) else (none)) else (none)) else (if 0≤x4 then (if x4 < (x0.length:Int) then (if 0≤x7 then ((barqueref09_Order.f k ((rd_T33 x0 x4).f0) ((rd_T33 x3 x7).f0)).bind fun t442=>(if t442 < 0 then (if x5.length < 3518437208883 then ((some (x5 ++ [(⟨(rd_T33 x0 x4).f0,(rd_T33 x0 x4).f1,(rd_T33 x0 x4).f2⟩:S33)]:List (S33))).bind fun y444=>(if y444.length < 3518437208883 then (barqueref09_Sort.l1 k x0 x3 x4 (y444 ++ [(⟨(rd_T33 x3 x7).f0,(rd_T33 x3 x7).f1,(rd_T33 x3 x7).f2⟩:S33)]) true (wrap64 (x7 + 1))) else (none))) else (none)) else (if x5.length < 3518437208883 then (barqueref09_Sort.l1 k x0 x3 x4 (x5 ++ [(⟨(rd_T33 x3 x7).f0,(rd_T33 x3 x7).f1,(rd_T33 x3 x7).f2⟩:S33)]) x6 (wrap64 (x7 + 1))) else (none)))) else (none)) else (none)) else (none))) else (if x6=true then (barqueref09_Sort.l0 k x0 x5 (wrap64 (x4 + 1))) else (if 0≤x4 then (if x4 < (x0.length:Int) then (if x5.length < 3518437208883 then (barqueref09_Sort.l0 k x0 (x5 ++ [(⟨(rd_T33 x0 x4).f0,(rd_T33 x0 x4).f1,(rd_T33 x0 x4).f2⟩:S33)]) (wrap64 (x4 + 1))) else (none)) else (none)) else (none)))
end
def barqueref09_Sort.f (k:Nat) (l0:List (S33)):Option ((List (S33))):=barqueref09_Sort.l0 k l0 ([]:List (S33)) 0
set_option maxHeartbeats 8000000 in
set_option maxRecDepth 100000 in
theorem barqueref09_Sort.calls (k:Nat) (A0:Option Addr) (c0:Nat) (l0:List (S33)) (r:List (S33)) (w:World) (hr0:Kd.C k33 w A0 l0.length l0) (hc0:l0.length≤c0) (h:barqueref09_Sort.f k l0=some r) :
  Calls Tryd.prog 45 #[.slice A0 l0.length c0] w fun e w'=>∃ v0_:Value,e=.returned (v0_)∧Kd.R k33 33 w' w.heap.size (fun _=>True) v0_ r∧Below w.heap.size w w':=by
 have hu33:=Tryd.underlying33;have HR0:=Aside0.mk hr0;have HC0:=Aside0.mk hc0;clear hr0 hc0;have HB:=Aside0.mk (Below.refl w.heap.size w);have H:(barqueref09_Sort.l0 k l0 ([]:List (S33)) 0)=some r:=h;clear h;have H':=Aside0.mk H;clear H;go_enter Tryd.func45,Tryd.ntmps45;go_wp2;(repeat (go_quiet (fail);try go_wp2));go_loopg [3,4] k (fun kq v3 v4 w'=>∃ (x3_1:List (S33)) (x4_1:Int),v4=.int .i64 x4_1∧Aside0 (barqueref09_Sort.l0 kq l0 x3_1 x4_1=some r)∧Aside0 (kq≤k)∧Aside0 (Kd.R k33 33 w' w.heap.size (fun _=>True) v3 x3_1)∧Aside0 (Below w.heap.size w w'))
 case atStart=>exact ⟨(([]:List (S33))),(0),(by first|rfl|(simp;done)|(simp [*];done)),H',⟨Nat.le_refl _⟩,⟨by first|exact Kd.R_nil _ _ _ _ _|exact Kd.N_nil _ _ _ _ _|exact Kd.V_nil _ _ _ _ _|exact Kd.Q_nil _ _ _ _ _|exact Kd.S_nil _ _ _ _ _⟩,⟨by repeat (first|(with_reducible first|exact HB.out|apply bal|apply bdN|apply bd1)|exact HB.out)⟩⟩
 case round =>
  clear H';obtain ⟨x3_1,x4_1,rfl,HA,HK1,HO_3,HB⟩:=hrel
  cases gk with
  | zero=>exact absurd HA.out (by simp [barqueref09_Sort.l0])
  | succ k1 =>
   have H:=HA.out;clear HA;simp only [barqueref09_Sort.l0] at H;by_cases c2:x4_1 < (l0.length:Int)
   ·rw [if_pos c2] at H;have c2b0:decide (x4_1 < (l0.length:Int))=true:=decide_eq_true c2;clear c2;have H':=Aside0.mk H;clear H;go_wp2;(repeat (go_quiet (fail);try go_wp2));go_loopg [5,6,7] k1 (fun kq v5 v6 v7 w'=>∃ (x5_2:List (S33)) (x6_2:Bool) (x7_2:Int),v6=.bool x6_2∧v7=.int .i64 x7_2∧Aside0 (barqueref09_Sort.l1 kq l0 x3_1 x4_1 x5_2 x6_2 x7_2=some r)∧Aside0 (kq≤k1)∧Aside0 (Kd.R k33 33 w' w.heap.size (fun k_=>some k_ ≠ (v5:Value).ownBlock) u3 x3_1)∧Aside0 (Kd.R k33 33 w' w.heap.size (fun k_=>some k_ ≠ (u3:Value).ownBlock) v5 x5_2)∧Aside0 (Below w.heap.size w w'))
    case atStart=>exact ⟨(([]:List (S33))),(false),(0),(by first|rfl|(simp;done)|(simp [*];done)),(by first|rfl|(simp;done)|(simp [*];done)),H',⟨Nat.le_refl _⟩,⟨by (with_reducible repeat (first|apply Kd.R_alloc|apply Kd.R_drewN|apply Kd.R_drew));exact Kd.R_mono HO_3.out (fun _ hk=>(by simp [Value.ownBlock]))⟩,⟨by first|exact Kd.R_nil _ _ _ _ _|exact Kd.N_nil _ _ _ _ _|exact Kd.V_nil _ _ _ _ _|exact Kd.Q_nil _ _ _ _ _|exact Kd.S_nil _ _ _ _ _⟩,⟨by repeat (first|(with_reducible first|exact HB.out|apply bal|apply bdN|apply bd1)|exact HB.out)⟩⟩
    case round =>
     clear H';(try clear c2);(try clear c2b0);(try clear p2);obtain ⟨x5_2,x6_2,x7_2,rfl,rfl,HA,HK2,HO_3,HO_5,HB⟩:=hrel
     cases gk with
     | zero=>exact absurd HA.out (by simp [barqueref09_Sort.l1])
     | succ k2 =>
      have H:=HA.out;clear HA;simp only [barqueref09_Sort.l1] at H;by_cases c3:x7_2 < (x3_1.length:Int)
      ·rw [if_pos c3] at H;have c3b0:decide (x7_2 < (x3_1.length:Int))=true:=decide_eq_true c3;clear c3;by_cases c4:x6_2=true
       ·subst c4;(have H1:(if 0≤x7_2 then (if x5_2.length < 3518437208883 then (barqueref09_Sort.l1 k2 l0 x3_1 x4_1 (x5_2 ++ [(⟨(rd_T33 x3_1 x7_2).f0,(rd_T33 x3_1 x7_2).f1,(rd_T33 x3_1 x7_2).f2⟩:S33)]) true (wrap64 (x7_2 + 1))) else (none)) else (none))=some r:=by rw [if_pos rfl] at H;exact H);clear H;have H:=H1;clear H1;by_cases c5:0≤x7_2
        ·rw [if_pos c5] at H;have c5b0:decide (0≤x7_2)=true:=decide_eq_true c5;clear c5;by_cases c6:x5_2.length < 3518437208883
         ·rw [if_pos c6] at H;have LMc6:=Aside0.mk c6;clear c6;obtain ⟨y437,hy437⟩:∃ y_:List (S33),y_=(x5_2 ++ [(⟨(rd_T33 x3_1 x7_2).f0,(rd_T33 x3_1 x7_2).f1,(rd_T33 x3_1 x7_2).f2⟩:S33)]):=⟨_,rfl⟩;(replace H:(barqueref09_Sort.l1 k2 l0 x3_1 x4_1 y437 true (wrap64 (x7_2 + 1)))=some r:=by first|(rw [hy437];with_reducible exact H)|(have H2_:=(Option.bind_some _ _).symm.trans H;rw [hy437];with_reducible exact H2_)|(have H2_:=(Option.bind_some _ _).symm.trans H;with_reducible exact H2_)|with_reducible exact H|(rw [hy437];exact H)|exact H);have Ny437:=Aside0.mk hy437;clear hy437;have H':=Aside0.mk H;clear H;obtain ⟨Ao7,co7,eo7⟩:=Kd.R_slice HO_3.out;subst eo7;have p436:0≤(x7_2:Int):=of_decide_eq_true (by first|(with_reducible assumption)|assumption);have q436:x7_2 < (x3_1.length:Int):=of_decide_eq_true (by first|(with_reducible assumption)|assumption);obtain ⟨ad436,e436,hx436_0,hx436_1,hx436_2⟩:=at_T33 (Kd.R_reads' HO_3.out).2.2 x7_2 p436 q436;cases e436;replace p436:=eq_true p436;replace q436:=eq_true q436;go_wp2_with (first|((with_reducible refine gate_builtin (b:=.append) (xs:=#[.tmp 43,.tmp 48]) rfl ?_);at_builtin;refine Kd.R_append k33 (w0:=w) w.heap.size rfl (.tmp 43) (.tmp 48) 22 33 (.agg #[(.string ⟨#[]⟩),(.int .i64 0),(.string ⟨#[]⟩)]) 40 rfl Tryd.underlying22 info33 rfl (by decide) (by omega) u5 x5_2 (⟨(rd_T33 x3_1 x7_2).f0,(rd_T33 x3_1 x7_2).f1,(rd_T33 x3_1 x7_2).f2⟩:S33) [.string ((rd_T33 x3_1 x7_2).f0),.int .i64 ((rd_T33 x3_1 x7_2).f1),.string ((rd_T33 x3_1 x7_2).f2)] (fun k_=>some k_ ≠ (.slice (some ad436) x3_1.length co7:Value).ownBlock) (fun _=>False) rfl rfl ?aP (fun _ hk=>hk.elim) ?aF ?aO ?aB ?aS ?aL ?_;(case aP=>exact k33_mkM _ _ _ (⟨(rd_T33 x3_1 x7_2).f0,(rd_T33 x3_1 x7_2).f1,(rd_T33 x3_1 x7_2).f2⟩:S33));(case aB=>exact (by repeat (first|(with_reducible first|exact HB.out|apply bal|apply bdN|apply bd1)|exact HB.out)));(case aF=>exact (fun k_ hk=>Kd.fresh' (Kd.R_lt (by (with_reducible repeat (first|apply Kd.R_alloc|apply Kd.R_drewN|apply Kd.R_drew));exact HO_3.out)) k_ hk));(case aO=>exact (by (with_reducible repeat (first|apply Kd.R_alloc|apply Kd.R_drewN|apply Kd.R_drew));exact HO_5.out));(case aS=>exact (below_size (by repeat (first|(with_reducible first|exact HB.out|apply bal|apply bdN|apply bd1)|exact HB.out))));(case aL=>have:=LMc6.out;omega);intro v438 w8 ho hb hg hat;rw [← Ny437.out] at ho;have n0_:=Aside0.mk (Kd.R_after (ok:=(fun _=>True)) (by (with_reducible repeat (first|apply Kd.R_alloc|apply Kd.R_drewN|apply Kd.R_drew));exact Kd.R_mono HO_3.out (fun _ hk=>⟨trivial,hk⟩)) hg hat);have n1_:=Aside0.mk (hb);have n2_:=Aside0.mk (ho);clear HO_3;clear HB;clear HO_5;have HO_3:=n0_;have HB:=n1_;have HO439:=n2_;clear n0_ n1_ n2_;clear ho hb hg hat));(repeat (go_quiet (first|((with_reducible refine gate_builtin (b:=.append) (xs:=#[.tmp 43,.tmp 48]) rfl ?_);at_builtin;refine Kd.R_append k33 (w0:=w) w.heap.size rfl (.tmp 43) (.tmp 48) 22 33 (.agg #[(.string ⟨#[]⟩),(.int .i64 0),(.string ⟨#[]⟩)]) 40 rfl Tryd.underlying22 info33 rfl (by decide) (by omega) u5 x5_2 (⟨(rd_T33 x3_1 x7_2).f0,(rd_T33 x3_1 x7_2).f1,(rd_T33 x3_1 x7_2).f2⟩:S33) [.string ((rd_T33 x3_1 x7_2).f0),.int .i64 ((rd_T33 x3_1 x7_2).f1),.string ((rd_T33 x3_1 x7_2).f2)] (fun k_=>some k_ ≠ (.slice (some ad436) x3_1.length co7:Value).ownBlock) (fun _=>False) rfl rfl ?aP (fun _ hk=>hk.elim) ?aF ?aO ?aB ?aS ?aL ?_;(case aP=>exact k33_mkM _ _ _ (⟨(rd_T33 x3_1 x7_2).f0,(rd_T33 x3_1 x7_2).f1,(rd_T33 x3_1 x7_2).f2⟩:S33));(case aB=>exact (by repeat (first|(with_reducible first|exact HB.out|apply bal|apply bdN|apply bd1)|exact HB.out)));(case aF=>exact (fun k_ hk=>Kd.fresh' (Kd.R_lt (by (with_reducible repeat (first|apply Kd.R_alloc|apply Kd.R_drewN|apply Kd.R_drew));exact HO_3.out)) k_ hk));(case aO=>exact (by (with_reducible repeat (first|apply Kd.R_alloc|apply Kd.R_drewN|apply Kd.R_drew));exact HO_5.out));(case aS=>exact (below_size (by repeat (first|(with_reducible first|exact HB.out|apply bal|apply bdN|apply bd1)|exact HB.out))));(case aL=>have:=LMc6.out;omega);intro v438 w8 ho hb hg hat;rw [← Ny437.out] at ho;have n0_:=Aside0.mk (Kd.R_after (ok:=(fun _=>True)) (by (with_reducible repeat (first|apply Kd.R_alloc|apply Kd.R_drewN|apply Kd.R_drew));exact Kd.R_mono HO_3.out (fun _ hk=>⟨trivial,hk⟩)) hg hat);have n1_:=Aside0.mk (hb);have n2_:=Aside0.mk (ho);clear HO_3;clear HB;clear HO_5;have HO_3:=n0_;have HB:=n1_;have HO439:=n2_;clear n0_ n1_ n2_;clear ho hb hg hat));try go_wp2_with (first|((with_reducible refine gate_builtin (b:=.append) (xs:=#[.tmp 43,.tmp 48]) rfl ?_);at_builtin;refine Kd.R_append k33 (w0:=w) w.heap.size rfl (.tmp 43) (.tmp 48) 22 33 (.agg #[(.string ⟨#[]⟩),(.int .i64 0),(.string ⟨#[]⟩)]) 40 rfl Tryd.underlying22 info33 rfl (by decide) (by omega) u5 x5_2 (⟨(rd_T33 x3_1 x7_2).f0,(rd_T33 x3_1 x7_2).f1,(rd_T33 x3_1 x7_2).f2⟩:S33) [.string ((rd_T33 x3_1 x7_2).f0),.int .i64 ((rd_T33 x3_1 x7_2).f1),.string ((rd_T33 x3_1 x7_2).f2)] (fun k_=>some k_ ≠ (.slice (some ad436) x3_1.length co7:Value).ownBlock) (fun _=>False) rfl rfl ?aP (fun _ hk=>hk.elim) ?aF ?aO ?aB ?aS ?aL ?_;(case aP=>exact k33_mkM _ _ _ (⟨(rd_T33 x3_1 x7_2).f0,(rd_T33 x3_1 x7_2).f1,(rd_T33 x3_1 x7_2).f2⟩:S33));(case aB=>exact (by repeat (first|(with_reducible first|exact HB.out|apply bal|apply bdN|apply bd1)|exact HB.out)));(case aF=>exact (fun k_ hk=>Kd.fresh' (Kd.R_lt (by (with_reducible repeat (first|apply Kd.R_alloc|apply Kd.R_drewN|apply Kd.R_drew));exact HO_3.out)) k_ hk));(case aO=>exact (by (with_reducible repeat (first|apply Kd.R_alloc|apply Kd.R_drewN|apply Kd.R_drew));exact HO_5.out));(case aS=>exact (below_size (by repeat (first|(with_reducible first|exact HB.out|apply bal|apply bdN|apply bd1)|exact HB.out))));(case aL=>have:=LMc6.out;omega);intro v438 w8 ho hb hg hat;rw [← Ny437.out] at ho;have n0_:=Aside0.mk (Kd.R_after (ok:=(fun _=>True)) (by (with_reducible repeat (first|apply Kd.R_alloc|apply Kd.R_drewN|apply Kd.R_drew));exact Kd.R_mono HO_3.out (fun _ hk=>⟨trivial,hk⟩)) hg hat);have n1_:=Aside0.mk (hb);have n2_:=Aside0.mk (ho);clear HO_3;clear HB;clear HO_5;have HO_3:=n0_;have HB:=n1_;have HO439:=n2_;clear n0_ n1_ n2_;clear ho hb hg hat))));go_roundg k2
          case measure=>have:=HK1.out;have:=HK2.out;omega
          case rel=>exact ⟨(y437),(true),(wrap64 (x7_2 + 1)),(by first|rfl|(simp;done)|(simp [*];done)),(by first|rfl|(simp;done)|(simp [*];done)),H',⟨by have:=HK1.out;have:=HK2.out;omega⟩,⟨by (with_reducible repeat (first|apply Kd.R_alloc|apply Kd.R_drewN|apply Kd.R_drew));exact Kd.R_mono HO_3.out (fun _ hk=>hk.2)⟩,⟨by (with_reducible repeat (first|apply Kd.R_alloc|apply Kd.R_drewN|apply Kd.R_drew));exact HO439.out⟩,⟨by repeat (first|(with_reducible first|exact HB.out|apply bal|apply bdN|apply bd1)|exact HB.out)⟩⟩
         ·rw [if_neg c6] at H;exact absurd H (by simp)
        ·rw [if_neg c5] at H;exact absurd H (by simp)
       ·replace c4:=Bool.eq_false_iff.mpr c4;subst c4;(have H1:(if 0≤x4_1 then (if x4_1 < (l0.length:Int) then (if 0≤x7_2 then ((barqueref09_Order.f k2 ((rd_T33 l0 x4_1).f0) ((rd_T33 x3_1 x7_2).f0)).bind fun t442=>(if t442 < 0 then (if x5_2.length < 3518437208883 then ((some (x5_2 ++ [(⟨(rd_T33 l0 x4_1).f0,(rd_T33 l0 x4_1).f1,(rd_T33 l0 x4_1).f2⟩:S33)]:List (S33))).bind fun y444=>(if y444.length < 3518437208883 then (barqueref09_Sort.l1 k2 l0 x3_1 x4_1 (y444 ++ [(⟨(rd_T33 x3_1 x7_2).f0,(rd_T33 x3_1 x7_2).f1,(rd_T33 x3_1 x7_2).f2⟩:S33)]) true (wrap64 (x7_2 + 1))) else (none))) else (none)) else (if x5_2.length < 3518437208883 then (barqueref09_Sort.l1 k2 l0 x3_1 x4_1 (x5_2 ++ [(⟨(rd_T33 x3_1 x7_2).f0,(rd_T33 x3_1 x7_2).f1,(rd_T33 x3_1 x7_2).f2⟩:S33)]) false (wrap64 (x7_2 + 1))) else (none)))) else (none)) else (none)) else (none))=some r:=by rw [if_neg (show ¬ (false=true) by decide)] at H;exact H);clear H;have H:=H1;clear H1;by_cases c9:0≤x4_1
        ·rw [if_pos c9] at H;have c9b0:decide (0≤x4_1)=true:=decide_eq_true c9;clear c9;by_cases c10:x4_1 < (l0.length:Int)
         ·rw [if_pos c10] at H;have c10b0:decide (x4_1 < (l0.length:Int))=true:=decide_eq_true c10;clear c10;by_cases c11:0≤x7_2
          ·rw [if_pos c11] at H;have c11b0:decide (0≤x7_2)=true:=decide_eq_true c11;clear c11;replace H:=Option.bind_eq_some_iff.mp H;obtain ⟨t442,A120,H⟩:=H;replace H:(if t442 < 0 then (if x5_2.length < 3518437208883 then ((some (x5_2 ++ [(⟨(rd_T33 l0 x4_1).f0,(rd_T33 l0 x4_1).f1,(rd_T33 l0 x4_1).f2⟩:S33)]:List (S33))).bind fun y444=>(if y444.length < 3518437208883 then (barqueref09_Sort.l1 k2 l0 x3_1 x4_1 (y444 ++ [(⟨(rd_T33 x3_1 x7_2).f0,(rd_T33 x3_1 x7_2).f1,(rd_T33 x3_1 x7_2).f2⟩:S33)]) true (wrap64 (x7_2 + 1))) else (none))) else (none)) else (if x5_2.length < 3518437208883 then (barqueref09_Sort.l1 k2 l0 x3_1 x4_1 (x5_2 ++ [(⟨(rd_T33 x3_1 x7_2).f0,(rd_T33 x3_1 x7_2).f1,(rd_T33 x3_1 x7_2).f2⟩:S33)]) false (wrap64 (x7_2 + 1))) else (none)))=some r:=H;have A12:=Aside0.mk A120;clear A120;by_cases c13:t442 < 0
           ·rw [if_pos c13] at H;have c13b0:decide (t442 < 0)=true:=decide_eq_true c13;clear c13;by_cases c14:x5_2.length < 3518437208883
            ·rw [if_pos c14] at H;have LMc14:=Aside0.mk c14;clear c14;obtain ⟨y444,hy444⟩:∃ y_:List (S33),y_=(x5_2 ++ [(⟨(rd_T33 l0 x4_1).f0,(rd_T33 l0 x4_1).f1,(rd_T33 l0 x4_1).f2⟩:S33)]):=⟨_,rfl⟩;(replace H:(if y444.length < 3518437208883 then (barqueref09_Sort.l1 k2 l0 x3_1 x4_1 (y444 ++ [(⟨(rd_T33 x3_1 x7_2).f0,(rd_T33 x3_1 x7_2).f1,(rd_T33 x3_1 x7_2).f2⟩:S33)]) true (wrap64 (x7_2 + 1))) else (none))=some r:=by first|(rw [hy444];with_reducible exact H)|(have H2_:=(Option.bind_some _ _).symm.trans H;rw [hy444];with_reducible exact H2_)|(have H2_:=(Option.bind_some _ _).symm.trans H;with_reducible exact H2_)|with_reducible exact H|(rw [hy444];exact H)|exact H);have Ny444:=Aside0.mk hy444;clear hy444;by_cases c15:y444.length < 3518437208883
             ·rw [if_pos c15] at H;have LMc15:=Aside0.mk c15;clear c15;obtain ⟨y448,hy448⟩:∃ y_:List (S33),y_=(y444 ++ [(⟨(rd_T33 x3_1 x7_2).f0,(rd_T33 x3_1 x7_2).f1,(rd_T33 x3_1 x7_2).f2⟩:S33)]):=⟨_,rfl⟩;(replace H:(barqueref09_Sort.l1 k2 l0 x3_1 x4_1 y448 true (wrap64 (x7_2 + 1)))=some r:=by first|(rw [hy448];with_reducible exact H)|(have H2_:=(Option.bind_some _ _).symm.trans H;rw [hy448];with_reducible exact H2_)|(have H2_:=(Option.bind_some _ _).symm.trans H;with_reducible exact H2_)|with_reducible exact H|(rw [hy448];exact H)|exact H);have Ny448:=Aside0.mk hy448;clear hy448;have H':=Aside0.mk H;clear H;obtain ⟨Ao16,co16,eo16⟩:=Kd.R_slice HO_3.out;subst eo16;have p440:0≤(x4_1:Int):=of_decide_eq_true (by first|(with_reducible assumption)|assumption);have q440:x4_1 < (l0.length:Int):=of_decide_eq_true (by first|(with_reducible assumption)|assumption);obtain ⟨ad440,e440,hx440_0,hx440_1,hx440_2⟩:=at_T33 HR0.out x4_1 p440 q440;cases e440;replace hx440_0:=(HB.out.cell (World.block_lt_of_cell? w _ hx440_0)).trans hx440_0;replace hx440_1:=(HB.out.cell (World.block_lt_of_cell? w _ hx440_1)).trans hx440_1;replace hx440_2:=(HB.out.cell (World.block_lt_of_cell? w _ hx440_2)).trans hx440_2;replace p440:=eq_true p440;replace q440:=eq_true q440;have p441:0≤(x7_2:Int):=of_decide_eq_true (by first|(with_reducible assumption)|assumption);have q441:x7_2 < (x3_1.length:Int):=of_decide_eq_true (by first|(with_reducible assumption)|assumption);obtain ⟨ad441,e441,hx441_0,hx441_1,hx441_2⟩:=at_T33 (Kd.R_reads' HO_3.out).2.2 x7_2 p441 q441;cases e441;replace p441:=eq_true p441;replace q441:=eq_true q441;go_wp2_with (first|(go_at_call 65;(with_reducible refine (barqueref09_Order.calls k2 ((rd_T33 l0 x4_1).f0) ((rd_T33 x3_1 x7_2).f0) t442 _ A12.out).mono ?_);rintro e w' ⟨rfl,⟨nd,rfl⟩⟩;(try first|exact ⟨rfl,_,World.drewN_drewN _ _ _⟩|exact ⟨rfl,_,Eq.trans (World.drewN_drewN _ _ _) (congrArg (World.drewN _) (Nat.add_assoc _ _ _))⟩);have p443:0≤(x4_1:Int):=of_decide_eq_true (by first|(with_reducible assumption)|assumption);have q443:x4_1 < (l0.length:Int):=of_decide_eq_true (by first|(with_reducible assumption)|assumption);obtain ⟨ad443,e443,hx443_0,hx443_1,hx443_2⟩:=at_T33 HR0.out x4_1 p443 q443;obtain rfl:ad440=ad443:=(by injection e443);replace hx443_0:=(HB.out.cell (World.block_lt_of_cell? w _ hx443_0)).trans hx443_0;replace hx443_1:=(HB.out.cell (World.block_lt_of_cell? w _ hx443_1)).trans hx443_1;replace hx443_2:=(HB.out.cell (World.block_lt_of_cell? w _ hx443_2)).trans hx443_2;replace p443:=eq_true p443;replace q443:=eq_true q443)|((with_reducible refine gate_builtin (b:=.append) (xs:=#[.tmp 36,.tmp 41]) rfl ?_);at_builtin;refine Kd.R_append k33 (w0:=w) w.heap.size rfl (.tmp 36) (.tmp 41) 22 33 (.agg #[(.string ⟨#[]⟩),(.int .i64 0),(.string ⟨#[]⟩)]) 40 rfl Tryd.underlying22 info33 rfl (by decide) (by omega) u5 x5_2 (⟨(rd_T33 l0 x4_1).f0,(rd_T33 l0 x4_1).f1,(rd_T33 l0 x4_1).f2⟩:S33) [.string ((rd_T33 l0 x4_1).f0),.int .i64 ((rd_T33 l0 x4_1).f1),.string ((rd_T33 l0 x4_1).f2)] (fun k_=>some k_ ≠ (.slice (some ad441) x3_1.length co16:Value).ownBlock) (fun _=>False) rfl rfl ?aP (fun _ hk=>hk.elim) ?aF ?aO ?aB ?aS ?aL ?_;(case aP=>exact k33_mkM _ _ _ (⟨(rd_T33 l0 x4_1).f0,(rd_T33 l0 x4_1).f1,(rd_T33 l0 x4_1).f2⟩:S33));(case aB=>exact (by repeat (first|(with_reducible first|exact HB.out|apply bal|apply bdN|apply bd1)|exact HB.out)));(case aF=>exact (fun k_ hk=>Kd.fresh' (Kd.R_lt (by (with_reducible repeat (first|apply Kd.R_alloc|apply Kd.R_drewN|apply Kd.R_drew));exact HO_3.out)) k_ hk));(case aO=>exact (by (with_reducible repeat (first|apply Kd.R_alloc|apply Kd.R_drewN|apply Kd.R_drew));exact HO_5.out));(case aS=>exact (below_size (by repeat (first|(with_reducible first|exact HB.out|apply bal|apply bdN|apply bd1)|exact HB.out))));(case aL=>have:=LMc14.out;omega);intro v445 w17 ho hb hg hat;rw [← Ny444.out] at ho;have n0_:=Aside0.mk (Kd.R_after (ok:=(fun _=>True)) (by (with_reducible repeat (first|apply Kd.R_alloc|apply Kd.R_drewN|apply Kd.R_drew));exact Kd.R_mono HO_3.out (fun _ hk=>⟨trivial,hk⟩)) hg hat);have n1_:=Aside0.mk (hb);have n2_:=Aside0.mk (ho);clear HO_3;clear HB;clear HO_5;have HO_3:=n0_;have HB:=n1_;have HO446:=n2_;clear n0_ n1_ n2_;clear ho hb hg hat;have p447:0≤(x7_2:Int):=of_decide_eq_true (by first|(with_reducible assumption)|assumption);have q447:x7_2 < (x3_1.length:Int):=of_decide_eq_true (by first|(with_reducible assumption)|assumption);obtain ⟨ad447,e447,hx447_0,hx447_1,hx447_2⟩:=at_T33 (Kd.R_reads' HO_3.out).2.2 x7_2 p447 q447;obtain rfl:ad441=ad447:=(by injection e447);replace p447:=eq_true p447;replace q447:=eq_true q447)|((with_reducible refine gate_builtin (b:=.append) (xs:=#[.tmp 43,.tmp 48]) rfl ?_);at_builtin;refine Kd.R_append k33 (w0:=w) w.heap.size rfl (.tmp 43) (.tmp 48) 22 33 (.agg #[(.string ⟨#[]⟩),(.int .i64 0),(.string ⟨#[]⟩)]) 40 rfl Tryd.underlying22 info33 rfl (by decide) (by omega) v445 y444 (⟨(rd_T33 x3_1 x7_2).f0,(rd_T33 x3_1 x7_2).f1,(rd_T33 x3_1 x7_2).f2⟩:S33) [.string ((rd_T33 x3_1 x7_2).f0),.int .i64 ((rd_T33 x3_1 x7_2).f1),.string ((rd_T33 x3_1 x7_2).f2)] (fun k_=>some k_ ≠ (.slice (some ad441) x3_1.length co16:Value).ownBlock) (fun _=>False) rfl rfl ?aP (fun _ hk=>hk.elim) ?aF ?aO ?aB ?aS ?aL ?_;(case aP=>exact k33_mkM _ _ _ (⟨(rd_T33 x3_1 x7_2).f0,(rd_T33 x3_1 x7_2).f1,(rd_T33 x3_1 x7_2).f2⟩:S33));(case aB=>exact (by repeat (first|(with_reducible first|exact HB.out|apply bal|apply bdN|apply bd1)|exact HB.out)));(case aF=>exact (fun k_ hk=>Kd.fresh' (Kd.R_lt (by (with_reducible repeat (first|apply Kd.R_alloc|apply Kd.R_drewN|apply Kd.R_drew));exact HO_3.out)) k_ hk));(case aO=>exact (by (with_reducible repeat (first|apply Kd.R_alloc|apply Kd.R_drewN|apply Kd.R_drew));exact HO446.out));(case aS=>exact (below_size (by repeat (first|(with_reducible first|exact HB.out|apply bal|apply bdN|apply bd1)|exact HB.out))));(case aL=>have:=LMc15.out;omega);intro v449 w18 ho hb hg hat;rw [← Ny448.out] at ho;have n0_:=Aside0.mk (Kd.R_after (ok:=(fun _=>True)) (by (with_reducible repeat (first|apply Kd.R_alloc|apply Kd.R_drewN|apply Kd.R_drew));exact HO_3.out) hg hat);have n1_:=Aside0.mk (hb);have n2_:=Aside0.mk (ho);clear HO_3;clear HB;clear HO446;have HO_3:=n0_;have HB:=n1_;have HO450:=n2_;clear n0_ n1_ n2_;clear ho hb hg hat));(repeat (go_quiet (first|(go_at_call 65;(with_reducible refine (barqueref09_Order.calls k2 ((rd_T33 l0 x4_1).f0) ((rd_T33 x3_1 x7_2).f0) t442 _ A12.out).mono ?_);rintro e w' ⟨rfl,⟨nd,rfl⟩⟩;(try first|exact ⟨rfl,_,World.drewN_drewN _ _ _⟩|exact ⟨rfl,_,Eq.trans (World.drewN_drewN _ _ _) (congrArg (World.drewN _) (Nat.add_assoc _ _ _))⟩);have p443:0≤(x4_1:Int):=of_decide_eq_true (by first|(with_reducible assumption)|assumption);have q443:x4_1 < (l0.length:Int):=of_decide_eq_true (by first|(with_reducible assumption)|assumption);obtain ⟨ad443,e443,hx443_0,hx443_1,hx443_2⟩:=at_T33 HR0.out x4_1 p443 q443;obtain rfl:ad440=ad443:=(by injection e443);replace hx443_0:=(HB.out.cell (World.block_lt_of_cell? w _ hx443_0)).trans hx443_0;replace hx443_1:=(HB.out.cell (World.block_lt_of_cell? w _ hx443_1)).trans hx443_1;replace hx443_2:=(HB.out.cell (World.block_lt_of_cell? w _ hx443_2)).trans hx443_2;replace p443:=eq_true p443;replace q443:=eq_true q443)|((with_reducible refine gate_builtin (b:=.append) (xs:=#[.tmp 36,.tmp 41]) rfl ?_);at_builtin;refine Kd.R_append k33 (w0:=w) w.heap.size rfl (.tmp 36) (.tmp 41) 22 33 (.agg #[(.string ⟨#[]⟩),(.int .i64 0),(.string ⟨#[]⟩)]) 40 rfl Tryd.underlying22 info33 rfl (by decide) (by omega) u5 x5_2 (⟨(rd_T33 l0 x4_1).f0,(rd_T33 l0 x4_1).f1,(rd_T33 l0 x4_1).f2⟩:S33) [.string ((rd_T33 l0 x4_1).f0),.int .i64 ((rd_T33 l0 x4_1).f1),.string ((rd_T33 l0 x4_1).f2)] (fun k_=>some k_ ≠ (.slice (some ad441) x3_1.length co16:Value).ownBlock) (fun _=>False) rfl rfl ?aP (fun _ hk=>hk.elim) ?aF ?aO ?aB ?aS ?aL ?_;(case aP=>exact k33_mkM _ _ _ (⟨(rd_T33 l0 x4_1).f0,(rd_T33 l0 x4_1).f1,(rd_T33 l0 x4_1).f2⟩:S33));(case aB=>exact (by repeat (first|(with_reducible first|exact HB.out|apply bal|apply bdN|apply bd1)|exact HB.out)));(case aF=>exact (fun k_ hk=>Kd.fresh' (Kd.R_lt (by (with_reducible repeat (first|apply Kd.R_alloc|apply Kd.R_drewN|apply Kd.R_drew));exact HO_3.out)) k_ hk));(case aO=>exact (by (with_reducible repeat (first|apply Kd.R_alloc|apply Kd.R_drewN|apply Kd.R_drew));exact HO_5.out));(case aS=>exact (below_size (by repeat (first|(with_reducible first|exact HB.out|apply bal|apply bdN|apply bd1)|exact HB.out))));(case aL=>have:=LMc14.out;omega);intro v445 w17 ho hb hg hat;rw [← Ny444.out] at ho;have n0_:=Aside0.mk (Kd.R_after (ok:=(fun _=>True)) (by (with_reducible repeat (first|apply Kd.R_alloc|apply Kd.R_drewN|apply Kd.R_drew));exact Kd.R_mono HO_3.out (fun _ hk=>⟨trivial,hk⟩)) hg hat);have n1_:=Aside0.mk (hb);have n2_:=Aside0.mk (ho);clear HO_3;clear HB;clear HO_5;have HO_3:=n0_;have HB:=n1_;have HO446:=n2_;clear n0_ n1_ n2_;clear ho hb hg hat;have p447:0≤(x7_2:Int):=of_decide_eq_true (by first|(with_reducible assumption)|assumption);have q447:x7_2 < (x3_1.length:Int):=of_decide_eq_true (by first|(with_reducible assumption)|assumption);obtain ⟨ad447,e447,hx447_0,hx447_1,hx447_2⟩:=at_T33 (Kd.R_reads' HO_3.out).2.2 x7_2 p447 q447;obtain rfl:ad441=ad447:=(by injection e447);replace p447:=eq_true p447;replace q447:=eq_true q447)|((with_reducible refine gate_builtin (b:=.append) (xs:=#[.tmp 43,.tmp 48]) rfl ?_);at_builtin;refine Kd.R_append k33 (w0:=w) w.heap.size rfl (.tmp 43) (.tmp 48) 22 33 (.agg #[(.string ⟨#[]⟩),(.int .i64 0),(.string ⟨#[]⟩)]) 40 rfl Tryd.underlying22 info33 rfl (by decide) (by omega) v445 y444 (⟨(rd_T33 x3_1 x7_2).f0,(rd_T33 x3_1 x7_2).f1,(rd_T33 x3_1 x7_2).f2⟩:S33) [.string ((rd_T33 x3_1 x7_2).f0),.int .i64 ((rd_T33 x3_1 x7_2).f1),.string ((rd_T33 x3_1 x7_2).f2)] (fun k_=>some k_ ≠ (.slice (some ad441) x3_1.length co16:Value).ownBlock) (fun _=>False) rfl rfl ?aP (fun _ hk=>hk.elim) ?aF ?aO ?aB ?aS ?aL ?_;(case aP=>exact k33_mkM _ _ _ (⟨(rd_T33 x3_1 x7_2).f0,(rd_T33 x3_1 x7_2).f1,(rd_T33 x3_1 x7_2).f2⟩:S33));(case aB=>exact (by repeat (first|(with_reducible first|exact HB.out|apply bal|apply bdN|apply bd1)|exact HB.out)));(case aF=>exact (fun k_ hk=>Kd.fresh' (Kd.R_lt (by (with_reducible repeat (first|apply Kd.R_alloc|apply Kd.R_drewN|apply Kd.R_drew));exact HO_3.out)) k_ hk));(case aO=>exact (by (with_reducible repeat (first|apply Kd.R_alloc|apply Kd.R_drewN|apply Kd.R_drew));exact HO446.out));(case aS=>exact (below_size (by repeat (first|(with_reducible first|exact HB.out|apply bal|apply bdN|apply bd1)|exact HB.out))));(case aL=>have:=LMc15.out;omega);intro v449 w18 ho hb hg hat;rw [← Ny448.out] at ho;have n0_:=Aside0.mk (Kd.R_after (ok:=(fun _=>True)) (by (with_reducible repeat (first|apply Kd.R_alloc|apply Kd.R_drewN|apply Kd.R_drew));exact HO_3.out) hg hat);have n1_:=Aside0.mk (hb);have n2_:=Aside0.mk (ho);clear HO_3;clear HB;clear HO446;have HO_3:=n0_;have HB:=n1_;have HO450:=n2_;clear n0_ n1_ n2_;clear ho hb hg hat));try go_wp2_with (first|(go_at_call 65;(with_reducible refine (barqueref09_Order.calls k2 ((rd_T33 l0 x4_1).f0) ((rd_T33 x3_1 x7_2).f0) t442 _ A12.out).mono ?_);rintro e w' ⟨rfl,⟨nd,rfl⟩⟩;(try first|exact ⟨rfl,_,World.drewN_drewN _ _ _⟩|exact ⟨rfl,_,Eq.trans (World.drewN_drewN _ _ _) (congrArg (World.drewN _) (Nat.add_assoc _ _ _))⟩);have p443:0≤(x4_1:Int):=of_decide_eq_true (by first|(with_reducible assumption)|assumption);have q443:x4_1 < (l0.length:Int):=of_decide_eq_true (by first|(with_reducible assumption)|assumption);obtain ⟨ad443,e443,hx443_0,hx443_1,hx443_2⟩:=at_T33 HR0.out x4_1 p443 q443;obtain rfl:ad440=ad443:=(by injection e443);replace hx443_0:=(HB.out.cell (World.block_lt_of_cell? w _ hx443_0)).trans hx443_0;replace hx443_1:=(HB.out.cell (World.block_lt_of_cell? w _ hx443_1)).trans hx443_1;replace hx443_2:=(HB.out.cell (World.block_lt_of_cell? w _ hx443_2)).trans hx443_2;replace p443:=eq_true p443;replace q443:=eq_true q443)|((with_reducible refine gate_builtin (b:=.append) (xs:=#[.tmp 36,.tmp 41]) rfl ?_);at_builtin;refine Kd.R_append k33 (w0:=w) w.heap.size rfl (.tmp 36) (.tmp 41) 22 33 (.agg #[(.string ⟨#[]⟩),(.int .i64 0),(.string ⟨#[]⟩)]) 40 rfl Tryd.underlying22 info33 rfl (by decide) (by omega) u5 x5_2 (⟨(rd_T33 l0 x4_1).f0,(rd_T33 l0 x4_1).f1,(rd_T33 l0 x4_1).f2⟩:S33) [.string ((rd_T33 l0 x4_1).f0),.int .i64 ((rd_T33 l0 x4_1).f1),.string ((rd_T33 l0 x4_1).f2)] (fun k_=>some k_ ≠ (.slice (some ad441) x3_1.length co16:Value).ownBlock) (fun _=>False) rfl rfl ?aP (fun _ hk=>hk.elim) ?aF ?aO ?aB ?aS ?aL ?_;(case aP=>exact k33_mkM _ _ _ (⟨(rd_T33 l0 x4_1).f0,(rd_T33 l0 x4_1).f1,(rd_T33 l0 x4_1).f2⟩:S33));(case aB=>exact (by repeat (first|(with_reducible first|exact HB.out|apply bal|apply bdN|apply bd1)|exact HB.out)));(case aF=>exact (fun k_ hk=>Kd.fresh' (Kd.R_lt (by (with_reducible repeat (first|apply Kd.R_alloc|apply Kd.R_drewN|apply Kd.R_drew));exact HO_3.out)) k_ hk));(case aO=>exact (by (with_reducible repeat (first|apply Kd.R_alloc|apply Kd.R_drewN|apply Kd.R_drew));exact HO_5.out));(case aS=>exact (below_size (by repeat (first|(with_reducible first|exact HB.out|apply bal|apply bdN|apply bd1)|exact HB.out))));(case aL=>have:=LMc14.out;omega);intro v445 w17 ho hb hg hat;rw [← Ny444.out] at ho;have n0_:=Aside0.mk (Kd.R_after (ok:=(fun _=>True)) (by (with_reducible repeat (first|apply Kd.R_alloc|apply Kd.R_drewN|apply Kd.R_drew));exact Kd.R_mono HO_3.out (fun _ hk=>⟨trivial,hk⟩)) hg hat);have n1_:=Aside0.mk (hb);have n2_:=Aside0.mk (ho);clear HO_3;clear HB;clear HO_5;have HO_3:=n0_;have HB:=n1_;have HO446:=n2_;clear n0_ n1_ n2_;clear ho hb hg hat;have p447:0≤(x7_2:Int):=of_decide_eq_true (by first|(with_reducible assumption)|assumption);have q447:x7_2 < (x3_1.length:Int):=of_decide_eq_true (by first|(with_reducible assumption)|assumption);obtain ⟨ad447,e447,hx447_0,hx447_1,hx447_2⟩:=at_T33 (Kd.R_reads' HO_3.out).2.2 x7_2 p447 q447;obtain rfl:ad441=ad447:=(by injection e447);replace p447:=eq_true p447;replace q447:=eq_true q447)|((with_reducible refine gate_builtin (b:=.append) (xs:=#[.tmp 43,.tmp 48]) rfl ?_);at_builtin;refine Kd.R_append k33 (w0:=w) w.heap.size rfl (.tmp 43) (.tmp 48) 22 33 (.agg #[(.string ⟨#[]⟩),(.int .i64 0),(.string ⟨#[]⟩)]) 40 rfl Tryd.underlying22 info33 rfl (by decide) (by omega) v445 y444 (⟨(rd_T33 x3_1 x7_2).f0,(rd_T33 x3_1 x7_2).f1,(rd_T33 x3_1 x7_2).f2⟩:S33) [.string ((rd_T33 x3_1 x7_2).f0),.int .i64 ((rd_T33 x3_1 x7_2).f1),.string ((rd_T33 x3_1 x7_2).f2)] (fun k_=>some k_ ≠ (.slice (some ad441) x3_1.length co16:Value).ownBlock) (fun _=>False) rfl rfl ?aP (fun _ hk=>hk.elim) ?aF ?aO ?aB ?aS ?aL ?_;(case aP=>exact k33_mkM _ _ _ (⟨(rd_T33 x3_1 x7_2).f0,(rd_T33 x3_1 x7_2).f1,(rd_T33 x3_1 x7_2).f2⟩:S33));(case aB=>exact (by repeat (first|(with_reducible first|exact HB.out|apply bal|apply bdN|apply bd1)|exact HB.out)));(case aF=>exact (fun k_ hk=>Kd.fresh' (Kd.R_lt (by (with_reducible repeat (first|apply Kd.R_alloc|apply Kd.R_drewN|apply Kd.R_drew));exact HO_3.out)) k_ hk));(case aO=>exact (by (with_reducible repeat (first|apply Kd.R_alloc|apply Kd.R_drewN|apply Kd.R_drew));exact HO446.out));(case aS=>exact (below_size (by repeat (first|(with_reducible first|exact HB.out|apply bal|apply bdN|apply bd1)|exact HB.out))));(case aL=>have:=LMc15.out;omega);intro v449 w18 ho hb hg hat;rw [← Ny448.out] at ho;have n0_:=Aside0.mk (Kd.R_after (ok:=(fun _=>True)) (by (with_reducible repeat (first|apply Kd.R_alloc|apply Kd.R_drewN|apply Kd.R_drew));exact HO_3.out) hg hat);have n1_:=Aside0.mk (hb);have n2_:=Aside0.mk (ho);clear HO_3;clear HB;clear HO446;have HO_3:=n0_;have HB:=n1_;have HO450:=n2_;clear n0_ n1_ n2_;clear ho hb hg hat))));go_roundg k2
              case measure=>have:=HK1.out;have:=HK2.out;omega
              case rel=>exact ⟨(y448),(true),(wrap64 (x7_2 + 1)),(by first|rfl|(simp;done)|(simp [*];done)),(by first|rfl|(simp;done)|(simp [*];done)),H',⟨by have:=HK1.out;have:=HK2.out;omega⟩,⟨by (with_reducible repeat (first|apply Kd.R_alloc|apply Kd.R_drewN|apply Kd.R_drew));exact Kd.R_mono HO_3.out (fun _ hk=>hk.2)⟩,⟨by (with_reducible repeat (first|apply Kd.R_alloc|apply Kd.R_drewN|apply Kd.R_drew));exact HO450.out⟩,⟨by repeat (first|(with_reducible first|exact HB.out|apply bal|apply bdN|apply bd1)|exact HB.out)⟩⟩
             ·rw [if_neg c15] at H;exact absurd H (by simp)
            ·rw [if_neg c14] at H;exact absurd H (by simp)
           ·rw [if_neg c13] at H;have c13b0:decide (t442 < 0)=false:=decide_eq_false c13;clear c13;by_cases c19:x5_2.length < 3518437208883
            ·rw [if_pos c19] at H;have LMc19:=Aside0.mk c19;clear c19;obtain ⟨y452,hy452⟩:∃ y_:List (S33),y_=(x5_2 ++ [(⟨(rd_T33 x3_1 x7_2).f0,(rd_T33 x3_1 x7_2).f1,(rd_T33 x3_1 x7_2).f2⟩:S33)]):=⟨_,rfl⟩;(replace H:(barqueref09_Sort.l1 k2 l0 x3_1 x4_1 y452 false (wrap64 (x7_2 + 1)))=some r:=by first|(rw [hy452];with_reducible exact H)|(have H2_:=(Option.bind_some _ _).symm.trans H;rw [hy452];with_reducible exact H2_)|(have H2_:=(Option.bind_some _ _).symm.trans H;with_reducible exact H2_)|with_reducible exact H|(rw [hy452];exact H)|exact H);have Ny452:=Aside0.mk hy452;clear hy452;have H':=Aside0.mk H;clear H;obtain ⟨Ao20,co20,eo20⟩:=Kd.R_slice HO_3.out;subst eo20;have p440:0≤(x4_1:Int):=of_decide_eq_true (by first|(with_reducible assumption)|assumption);have q440:x4_1 < (l0.length:Int):=of_decide_eq_true (by first|(with_reducible assumption)|assumption);obtain ⟨ad440,e440,hx440_0,hx440_1,hx440_2⟩:=at_T33 HR0.out x4_1 p440 q440;cases e440;replace hx440_0:=(HB.out.cell (World.block_lt_of_cell? w _ hx440_0)).trans hx440_0;replace hx440_1:=(HB.out.cell (World.block_lt_of_cell? w _ hx440_1)).trans hx440_1;replace hx440_2:=(HB.out.cell (World.block_lt_of_cell? w _ hx440_2)).trans hx440_2;replace p440:=eq_true p440;replace q440:=eq_true q440;have p441:0≤(x7_2:Int):=of_decide_eq_true (by first|(with_reducible assumption)|assumption);have q441:x7_2 < (x3_1.length:Int):=of_decide_eq_true (by first|(with_reducible assumption)|assumption);obtain ⟨ad441,e441,hx441_0,hx441_1,hx441_2⟩:=at_T33 (Kd.R_reads' HO_3.out).2.2 x7_2 p441 q441;cases e441;replace p441:=eq_true p441;replace q441:=eq_true q441;go_wp2_with (first|(go_at_call 65;(with_reducible refine (barqueref09_Order.calls k2 ((rd_T33 l0 x4_1).f0) ((rd_T33 x3_1 x7_2).f0) t442 _ A12.out).mono ?_);rintro e w' ⟨rfl,⟨nd,rfl⟩⟩;(try first|exact ⟨rfl,_,World.drewN_drewN _ _ _⟩|exact ⟨rfl,_,Eq.trans (World.drewN_drewN _ _ _) (congrArg (World.drewN _) (Nat.add_assoc _ _ _))⟩);have p451:0≤(x7_2:Int):=of_decide_eq_true (by first|(with_reducible assumption)|assumption);have q451:x7_2 < (x3_1.length:Int):=of_decide_eq_true (by first|(with_reducible assumption)|assumption);obtain ⟨ad451,e451,hx451_0,hx451_1,hx451_2⟩:=at_T33 (Kd.R_reads' HO_3.out).2.2 x7_2 p451 q451;obtain rfl:ad441=ad451:=(by injection e451);replace p451:=eq_true p451;replace q451:=eq_true q451)|((with_reducible refine gate_builtin (b:=.append) (xs:=#[.tmp 43,.tmp 48]) rfl ?_);at_builtin;refine Kd.R_append k33 (w0:=w) w.heap.size rfl (.tmp 43) (.tmp 48) 22 33 (.agg #[(.string ⟨#[]⟩),(.int .i64 0),(.string ⟨#[]⟩)]) 40 rfl Tryd.underlying22 info33 rfl (by decide) (by omega) u5 x5_2 (⟨(rd_T33 x3_1 x7_2).f0,(rd_T33 x3_1 x7_2).f1,(rd_T33 x3_1 x7_2).f2⟩:S33) [.string ((rd_T33 x3_1 x7_2).f0),.int .i64 ((rd_T33 x3_1 x7_2).f1),.string ((rd_T33 x3_1 x7_2).f2)] (fun k_=>some k_ ≠ (.slice (some ad441) x3_1.length co20:Value).ownBlock) (fun _=>False) rfl rfl ?aP (fun _ hk=>hk.elim) ?aF ?aO ?aB ?aS ?aL ?_;(case aP=>exact k33_mkM _ _ _ (⟨(rd_T33 x3_1 x7_2).f0,(rd_T33 x3_1 x7_2).f1,(rd_T33 x3_1 x7_2).f2⟩:S33));(case aB=>exact (by repeat (first|(with_reducible first|exact HB.out|apply bal|apply bdN|apply bd1)|exact HB.out)));(case aF=>exact (fun k_ hk=>Kd.fresh' (Kd.R_lt (by (with_reducible repeat (first|apply Kd.R_alloc|apply Kd.R_drewN|apply Kd.R_drew));exact HO_3.out)) k_ hk));(case aO=>exact (by (with_reducible repeat (first|apply Kd.R_alloc|apply Kd.R_drewN|apply Kd.R_drew));exact HO_5.out));(case aS=>exact (below_size (by repeat (first|(with_reducible first|exact HB.out|apply bal|apply bdN|apply bd1)|exact HB.out))));(case aL=>have:=LMc19.out;omega);intro v453 w21 ho hb hg hat;rw [← Ny452.out] at ho;have n0_:=Aside0.mk (Kd.R_after (ok:=(fun _=>True)) (by (with_reducible repeat (first|apply Kd.R_alloc|apply Kd.R_drewN|apply Kd.R_drew));exact Kd.R_mono HO_3.out (fun _ hk=>⟨trivial,hk⟩)) hg hat);have n1_:=Aside0.mk (hb);have n2_:=Aside0.mk (ho);clear HO_3;clear HB;clear HO_5;have HO_3:=n0_;have HB:=n1_;have HO454:=n2_;clear n0_ n1_ n2_;clear ho hb hg hat));(repeat (go_quiet (first|(go_at_call 65;(with_reducible refine (barqueref09_Order.calls k2 ((rd_T33 l0 x4_1).f0) ((rd_T33 x3_1 x7_2).f0) t442 _ A12.out).mono ?_);rintro e w' ⟨rfl,⟨nd,rfl⟩⟩;(try first|exact ⟨rfl,_,World.drewN_drewN _ _ _⟩|exact ⟨rfl,_,Eq.trans (World.drewN_drewN _ _ _) (congrArg (World.drewN _) (Nat.add_assoc _ _ _))⟩);have p451:0≤(x7_2:Int):=of_decide_eq_true (by first|(with_reducible assumption)|assumption);have q451:x7_2 < (x3_1.length:Int):=of_decide_eq_true (by first|(with_reducible assumption)|assumption);obtain ⟨ad451,e451,hx451_0,hx451_1,hx451_2⟩:=at_T33 (Kd.R_reads' HO_3.out).2.2 x7_2 p451 q451;obtain rfl:ad441=ad451:=(by injection e451);replace p451:=eq_true p451;replace q451:=eq_true q451)|((with_reducible refine gate_builtin (b:=.append) (xs:=#[.tmp 43,.tmp 48]) rfl ?_);at_builtin;refine Kd.R_append k33 (w0:=w) w.heap.size rfl (.tmp 43) (.tmp 48) 22 33 (.agg #[(.string ⟨#[]⟩),(.int .i64 0),(.string ⟨#[]⟩)]) 40 rfl Tryd.underlying22 info33 rfl (by decide) (by omega) u5 x5_2 (⟨(rd_T33 x3_1 x7_2).f0,(rd_T33 x3_1 x7_2).f1,(rd_T33 x3_1 x7_2).f2⟩:S33) [.string ((rd_T33 x3_1 x7_2).f0),.int .i64 ((rd_T33 x3_1 x7_2).f1),.string ((rd_T33 x3_1 x7_2).f2)] (fun k_=>some k_ ≠ (.slice (some ad441) x3_1.length co20:Value).ownBlock) (fun _=>False) rfl rfl ?aP (fun _ hk=>hk.elim) ?aF ?aO ?aB ?aS ?aL ?_;(case aP=>exact k33_mkM _ _ _ (⟨(rd_T33 x3_1 x7_2).f0,(rd_T33 x3_1 x7_2).f1,(rd_T33 x3_1 x7_2).f2⟩:S33));(case aB=>exact (by repeat (first|(with_reducible first|exact HB.out|apply bal|apply bdN|apply bd1)|exact HB.out)));(case aF=>exact (fun k_ hk=>Kd.fresh' (Kd.R_lt (by (with_reducible repeat (first|apply Kd.R_alloc|apply Kd.R_drewN|apply Kd.R_drew));exact HO_3.out)) k_ hk));(case aO=>exact (by (with_reducible repeat (first|apply Kd.R_alloc|apply Kd.R_drewN|apply Kd.R_drew));exact HO_5.out));(case aS=>exact (below_size (by repeat (first|(with_reducible first|exact HB.out|apply bal|apply bdN|apply bd1)|exact HB.out))));(case aL=>have:=LMc19.out;omega);intro v453 w21 ho hb hg hat;rw [← Ny452.out] at ho;have n0_:=Aside0.mk (Kd.R_after (ok:=(fun _=>True)) (by (with_reducible repeat (first|apply Kd.R_alloc|apply Kd.R_drewN|apply Kd.R_drew));exact Kd.R_mono HO_3.out (fun _ hk=>⟨trivial,hk⟩)) hg hat);have n1_:=Aside0.mk (hb);have n2_:=Aside0.mk (ho);clear HO_3;clear HB;clear HO_5;have HO_3:=n0_;have HB:=n1_;have HO454:=n2_;clear n0_ n1_ n2_;clear ho hb hg hat));try go_wp2_with (first|(go_at_call 65;(with_reducible refine (barqueref09_Order.calls k2 ((rd_T33 l0 x4_1).f0) ((rd_T33 x3_1 x7_2).f0) t442 _ A12.out).mono ?_);rintro e w' ⟨rfl,⟨nd,rfl⟩⟩;(try first|exact ⟨rfl,_,World.drewN_drewN _ _ _⟩|exact ⟨rfl,_,Eq.trans (World.drewN_drewN _ _ _) (congrArg (World.drewN _) (Nat.add_assoc _ _ _))⟩);have p451:0≤(x7_2:Int):=of_decide_eq_true (by first|(with_reducible assumption)|assumption);have q451:x7_2 < (x3_1.length:Int):=of_decide_eq_true (by first|(with_reducible assumption)|assumption);obtain ⟨ad451,e451,hx451_0,hx451_1,hx451_2⟩:=at_T33 (Kd.R_reads' HO_3.out).2.2 x7_2 p451 q451;obtain rfl:ad441=ad451:=(by injection e451);replace p451:=eq_true p451;replace q451:=eq_true q451)|((with_reducible refine gate_builtin (b:=.append) (xs:=#[.tmp 43,.tmp 48]) rfl ?_);at_builtin;refine Kd.R_append k33 (w0:=w) w.heap.size rfl (.tmp 43) (.tmp 48) 22 33 (.agg #[(.string ⟨#[]⟩),(.int .i64 0),(.string ⟨#[]⟩)]) 40 rfl Tryd.underlying22 info33 rfl (by decide) (by omega) u5 x5_2 (⟨(rd_T33 x3_1 x7_2).f0,(rd_T33 x3_1 x7_2).f1,(rd_T33 x3_1 x7_2).f2⟩:S33) [.string ((rd_T33 x3_1 x7_2).f0),.int .i64 ((rd_T33 x3_1 x7_2).f1),.string ((rd_T33 x3_1 x7_2).f2)] (fun k_=>some k_ ≠ (.slice (some ad441) x3_1.length co20:Value).ownBlock) (fun _=>False) rfl rfl ?aP (fun _ hk=>hk.elim) ?aF ?aO ?aB ?aS ?aL ?_;(case aP=>exact k33_mkM _ _ _ (⟨(rd_T33 x3_1 x7_2).f0,(rd_T33 x3_1 x7_2).f1,(rd_T33 x3_1 x7_2).f2⟩:S33));(case aB=>exact (by repeat (first|(with_reducible first|exact HB.out|apply bal|apply bdN|apply bd1)|exact HB.out)));(case aF=>exact (fun k_ hk=>Kd.fresh' (Kd.R_lt (by (with_reducible repeat (first|apply Kd.R_alloc|apply Kd.R_drewN|apply Kd.R_drew));exact HO_3.out)) k_ hk));(case aO=>exact (by (with_reducible repeat (first|apply Kd.R_alloc|apply Kd.R_drewN|apply Kd.R_drew));exact HO_5.out));(case aS=>exact (below_size (by repeat (first|(with_reducible first|exact HB.out|apply bal|apply bdN|apply bd1)|exact HB.out))));(case aL=>have:=LMc19.out;omega);intro v453 w21 ho hb hg hat;rw [← Ny452.out] at ho;have n0_:=Aside0.mk (Kd.R_after (ok:=(fun _=>True)) (by (with_reducible repeat (first|apply Kd.R_alloc|apply Kd.R_drewN|apply Kd.R_drew));exact Kd.R_mono HO_3.out (fun _ hk=>⟨trivial,hk⟩)) hg hat);have n1_:=Aside0.mk (hb);have n2_:=Aside0.mk (ho);clear HO_3;clear HB;clear HO_5;have HO_3:=n0_;have HB:=n1_;have HO454:=n2_;clear n0_ n1_ n2_;clear ho hb hg hat))));go_roundg k2
             case measure=>have:=HK1.out;have:=HK2.out;omega
             case rel=>exact ⟨(y452),(false),(wrap64 (x7_2 + 1)),(by first|rfl|(simp;done)|(simp [*];done)),(by first|rfl|(simp;done)|(simp [*];done)),H',⟨by have:=HK1.out;have:=HK2.out;omega⟩,⟨by (with_reducible repeat (first|apply Kd.R_alloc|apply Kd.R_drewN|apply Kd.R_drew));exact Kd.R_mono HO_3.out (fun _ hk=>hk.2)⟩,⟨by (with_reducible repeat (first|apply Kd.R_alloc|apply Kd.R_drewN|apply Kd.R_drew));exact HO454.out⟩,⟨by repeat (first|(with_reducible first|exact HB.out|apply bal|apply bdN|apply bd1)|exact HB.out)⟩⟩
            ·rw [if_neg c19] at H;exact absurd H (by simp)
          ·rw [if_neg c11] at H;exact absurd H (by simp)
         ·rw [if_neg c10] at H;exact absurd H (by simp)
        ·rw [if_neg c9] at H;exact absurd H (by simp)
      ·rw [if_neg c3] at H;have c3b0:decide (x7_2 < (x3_1.length:Int))=false:=decide_eq_false c3;clear c3;by_cases c22:x6_2=true
       ·subst c22;(have H1:(barqueref09_Sort.l0 k2 l0 x5_2 (wrap64 (x4_1 + 1)))=some r:=by rw [if_pos rfl] at H;exact H);clear H;have H:=H1;clear H1;have H':=Aside0.mk H;clear H;obtain ⟨Ao23,co23,eo23⟩:=Kd.R_slice HO_3.out;subst eo23;go_wp2;(repeat (go_quiet (fail);try go_wp2));go_roundg k2
        case measure=>have:=HK1.out;have:=HK2.out;omega
        case rel=>exact ⟨(x5_2),(wrap64 (x4_1 + 1)),(by first|rfl|(simp;done)|(simp [*];done)),H',⟨by have:=HK1.out;have:=HK2.out;omega⟩,⟨by (with_reducible repeat (first|apply Kd.R_alloc|apply Kd.R_drewN|apply Kd.R_drew));exact Kd.R_mono HO_5.out (fun _ hk=>trivial)⟩,⟨by repeat (first|(with_reducible first|exact HB.out|apply bal|apply bdN|apply bd1)|exact HB.out)⟩⟩
       ·replace c22:=Bool.eq_false_iff.mpr c22;subst c22;(have H1:(if 0≤x4_1 then (if x4_1 < (l0.length:Int) then (if x5_2.length < 3518437208883 then (barqueref09_Sort.l0 k2 l0 (x5_2 ++ [(⟨(rd_T33 l0 x4_1).f0,(rd_T33 l0 x4_1).f1,(rd_T33 l0 x4_1).f2⟩:S33)]) (wrap64 (x4_1 + 1))) else (none)) else (none)) else (none))=some r:=by rw [if_neg (show ¬ (false=true) by decide)] at H;exact H);clear H;have H:=H1;clear H1;by_cases c24:0≤x4_1
        ·rw [if_pos c24] at H;have c24b0:decide (0≤x4_1)=true:=decide_eq_true c24;clear c24;by_cases c25:x4_1 < (l0.length:Int)
         ·rw [if_pos c25] at H;have c25b0:decide (x4_1 < (l0.length:Int))=true:=decide_eq_true c25;clear c25;by_cases c26:x5_2.length < 3518437208883
          ·rw [if_pos c26] at H;have LMc26:=Aside0.mk c26;clear c26;obtain ⟨y456,hy456⟩:∃ y_:List (S33),y_=(x5_2 ++ [(⟨(rd_T33 l0 x4_1).f0,(rd_T33 l0 x4_1).f1,(rd_T33 l0 x4_1).f2⟩:S33)]):=⟨_,rfl⟩;(replace H:(barqueref09_Sort.l0 k2 l0 y456 (wrap64 (x4_1 + 1)))=some r:=by first|(rw [hy456];with_reducible exact H)|(have H2_:=(Option.bind_some _ _).symm.trans H;rw [hy456];with_reducible exact H2_)|(have H2_:=(Option.bind_some _ _).symm.trans H;with_reducible exact H2_)|with_reducible exact H|(rw [hy456];exact H)|exact H);have Ny456:=Aside0.mk hy456;clear hy456;have H':=Aside0.mk H;clear H;obtain ⟨Ao27,co27,eo27⟩:=Kd.R_slice HO_3.out;subst eo27;have p455:0≤(x4_1:Int):=of_decide_eq_true (by first|(with_reducible assumption)|assumption);have q455:x4_1 < (l0.length:Int):=of_decide_eq_true (by first|(with_reducible assumption)|assumption);obtain ⟨ad455,e455,hx455_0,hx455_1,hx455_2⟩:=at_T33 HR0.out x4_1 p455 q455;cases e455;replace hx455_0:=(HB.out.cell (World.block_lt_of_cell? w _ hx455_0)).trans hx455_0;replace hx455_1:=(HB.out.cell (World.block_lt_of_cell? w _ hx455_1)).trans hx455_1;replace hx455_2:=(HB.out.cell (World.block_lt_of_cell? w _ hx455_2)).trans hx455_2;replace p455:=eq_true p455;replace q455:=eq_true q455;go_wp2_with (first|((with_reducible refine gate_builtin (b:=.append) (xs:=#[.tmp 52,.tmp 57]) rfl ?_);at_builtin;refine Kd.R_append k33 (w0:=w) w.heap.size rfl (.tmp 52) (.tmp 57) 22 33 (.agg #[(.string ⟨#[]⟩),(.int .i64 0),(.string ⟨#[]⟩)]) 40 rfl Tryd.underlying22 info33 rfl (by decide) (by omega) u5 x5_2 (⟨(rd_T33 l0 x4_1).f0,(rd_T33 l0 x4_1).f1,(rd_T33 l0 x4_1).f2⟩:S33) [.string ((rd_T33 l0 x4_1).f0),.int .i64 ((rd_T33 l0 x4_1).f1),.string ((rd_T33 l0 x4_1).f2)] (fun k_=>some k_ ≠ (.slice Ao27 x3_1.length co27:Value).ownBlock) (fun _=>False) rfl rfl ?aP (fun _ hk=>hk.elim) ?aF ?aO ?aB ?aS ?aL ?_;(case aP=>exact k33_mkM _ _ _ (⟨(rd_T33 l0 x4_1).f0,(rd_T33 l0 x4_1).f1,(rd_T33 l0 x4_1).f2⟩:S33));(case aB=>exact (by repeat (first|(with_reducible first|exact HB.out|apply bal|apply bdN|apply bd1)|exact HB.out)));(case aF=>exact (fun k_ hk=>Kd.fresh' (Kd.R_lt (by (with_reducible repeat (first|apply Kd.R_alloc|apply Kd.R_drewN|apply Kd.R_drew));exact HO_3.out)) k_ hk));(case aO=>exact (by (with_reducible repeat (first|apply Kd.R_alloc|apply Kd.R_drewN|apply Kd.R_drew));exact HO_5.out));(case aS=>exact (below_size (by repeat (first|(with_reducible first|exact HB.out|apply bal|apply bdN|apply bd1)|exact HB.out))));(case aL=>have:=LMc26.out;omega);intro v457 w28 ho hb hg hat;rw [← Ny456.out] at ho;have n0_:=Aside0.mk (Kd.R_after (ok:=(fun _=>True)) (by (with_reducible repeat (first|apply Kd.R_alloc|apply Kd.R_drewN|apply Kd.R_drew));exact Kd.R_mono HO_3.out (fun _ hk=>⟨trivial,hk⟩)) hg hat);have n1_:=Aside0.mk (hb);have n2_:=Aside0.mk (ho);clear HO_3;clear HB;clear HO_5;have HO_3:=n0_;have HB:=n1_;have HO458:=n2_;clear n0_ n1_ n2_;clear ho hb hg hat));(repeat (go_quiet (first|((with_reducible refine gate_builtin (b:=.append) (xs:=#[.tmp 52,.tmp 57]) rfl ?_);at_builtin;refine Kd.R_append k33 (w0:=w) w.heap.size rfl (.tmp 52) (.tmp 57) 22 33 (.agg #[(.string ⟨#[]⟩),(.int .i64 0),(.string ⟨#[]⟩)]) 40 rfl Tryd.underlying22 info33 rfl (by decide) (by omega) u5 x5_2 (⟨(rd_T33 l0 x4_1).f0,(rd_T33 l0 x4_1).f1,(rd_T33 l0 x4_1).f2⟩:S33) [.string ((rd_T33 l0 x4_1).f0),.int .i64 ((rd_T33 l0 x4_1).f1),.string ((rd_T33 l0 x4_1).f2)] (fun k_=>some k_ ≠ (.slice Ao27 x3_1.length co27:Value).ownBlock) (fun _=>False) rfl rfl ?aP (fun _ hk=>hk.elim) ?aF ?aO ?aB ?aS ?aL ?_;(case aP=>exact k33_mkM _ _ _ (⟨(rd_T33 l0 x4_1).f0,(rd_T33 l0 x4_1).f1,(rd_T33 l0 x4_1).f2⟩:S33));(case aB=>exact (by repeat (first|(with_reducible first|exact HB.out|apply bal|apply bdN|apply bd1)|exact HB.out)));(case aF=>exact (fun k_ hk=>Kd.fresh' (Kd.R_lt (by (with_reducible repeat (first|apply Kd.R_alloc|apply Kd.R_drewN|apply Kd.R_drew));exact HO_3.out)) k_ hk));(case aO=>exact (by (with_reducible repeat (first|apply Kd.R_alloc|apply Kd.R_drewN|apply Kd.R_drew));exact HO_5.out));(case aS=>exact (below_size (by repeat (first|(with_reducible first|exact HB.out|apply bal|apply bdN|apply bd1)|exact HB.out))));(case aL=>have:=LMc26.out;omega);intro v457 w28 ho hb hg hat;rw [← Ny456.out] at ho;have n0_:=Aside0.mk (Kd.R_after (ok:=(fun _=>True)) (by (with_reducible repeat (first|apply Kd.R_alloc|apply Kd.R_drewN|apply Kd.R_drew));exact Kd.R_mono HO_3.out (fun _ hk=>⟨trivial,hk⟩)) hg hat);have n1_:=Aside0.mk (hb);have n2_:=Aside0.mk (ho);clear HO_3;clear HB;clear HO_5;have HO_3:=n0_;have HB:=n1_;have HO458:=n2_;clear n0_ n1_ n2_;clear ho hb hg hat));try go_wp2_with (first|((with_reducible refine gate_builtin (b:=.append) (xs:=#[.tmp 52,.tmp 57]) rfl ?_);at_builtin;refine Kd.R_append k33 (w0:=w) w.heap.size rfl (.tmp 52) (.tmp 57) 22 33 (.agg #[(.string ⟨#[]⟩),(.int .i64 0),(.string ⟨#[]⟩)]) 40 rfl Tryd.underlying22 info33 rfl (by decide) (by omega) u5 x5_2 (⟨(rd_T33 l0 x4_1).f0,(rd_T33 l0 x4_1).f1,(rd_T33 l0 x4_1).f2⟩:S33) [.string ((rd_T33 l0 x4_1).f0),.int .i64 ((rd_T33 l0 x4_1).f1),.string ((rd_T33 l0 x4_1).f2)] (fun k_=>some k_ ≠ (.slice Ao27 x3_1.length co27:Value).ownBlock) (fun _=>False) rfl rfl ?aP (fun _ hk=>hk.elim) ?aF ?aO ?aB ?aS ?aL ?_;(case aP=>exact k33_mkM _ _ _ (⟨(rd_T33 l0 x4_1).f0,(rd_T33 l0 x4_1).f1,(rd_T33 l0 x4_1).f2⟩:S33));(case aB=>exact (by repeat (first|(with_reducible first|exact HB.out|apply bal|apply bdN|apply bd1)|exact HB.out)));(case aF=>exact (fun k_ hk=>Kd.fresh' (Kd.R_lt (by (with_reducible repeat (first|apply Kd.R_alloc|apply Kd.R_drewN|apply Kd.R_drew));exact HO_3.out)) k_ hk));(case aO=>exact (by (with_reducible repeat (first|apply Kd.R_alloc|apply Kd.R_drewN|apply Kd.R_drew));exact HO_5.out));(case aS=>exact (below_size (by repeat (first|(with_reducible first|exact HB.out|apply bal|apply bdN|apply bd1)|exact HB.out))));(case aL=>have:=LMc26.out;omega);intro v457 w28 ho hb hg hat;rw [← Ny456.out] at ho;have n0_:=Aside0.mk (Kd.R_after (ok:=(fun _=>True)) (by (with_reducible repeat (first|apply Kd.R_alloc|apply Kd.R_drewN|apply Kd.R_drew));exact Kd.R_mono HO_3.out (fun _ hk=>⟨trivial,hk⟩)) hg hat);have n1_:=Aside0.mk (hb);have n2_:=Aside0.mk (ho);clear HO_3;clear HB;clear HO_5;have HO_3:=n0_;have HB:=n1_;have HO458:=n2_;clear n0_ n1_ n2_;clear ho hb hg hat))));go_roundg k2
           case measure=>have:=HK1.out;have:=HK2.out;omega
           case rel=>exact ⟨(y456),(wrap64 (x4_1 + 1)),(by first|rfl|(simp;done)|(simp [*];done)),H',⟨by have:=HK1.out;have:=HK2.out;omega⟩,⟨by (with_reducible repeat (first|apply Kd.R_alloc|apply Kd.R_drewN|apply Kd.R_drew));exact Kd.R_mono HO458.out (fun _ hk=>trivial)⟩,⟨by repeat (first|(with_reducible first|exact HB.out|apply bal|apply bdN|apply bd1)|exact HB.out)⟩⟩
          ·rw [if_neg c26] at H;exact absurd H (by simp)
         ·rw [if_neg c25] at H;exact absurd H (by simp)
        ·rw [if_neg c24] at H;exact absurd H (by simp)
   ·rw [if_neg c2] at H;have c2b0:decide (x4_1 < (l0.length:Int))=false:=decide_eq_false c2;clear c2;obtain rfl:=Option.some.inj H;go_wp2;(repeat (go_quiet (fail);try go_wp2));go_ret;exact ⟨_,by first|rfl|(simp [errW_none,errW_some] <;> rfl)|(simp [*,errW_none,errW_some] <;> rfl),by (with_reducible repeat (first|apply Kd.R_alloc|apply Kd.R_drewN|apply Kd.R_drew));exact HO_3.out,by repeat (first|(with_reducible first|exact HB.out|apply bal|apply bdN|apply bd1)|exact HB.out)⟩
end Go.Proofs.YtmeofdpmddjbgaaDoor.G
end
section
namespace Go.Proofs.YtmeofdpmddjbgaaDoor.G
open Go.RowKit Go.Proofs.YtmeofdpmddjbgaaDoorW.PrintWords Go.Proofs.YtmeofdpmddjbgaaDoorW.PrintLast Go.Proofs.YtmeofdpmddjbgaaDoorW.PrintMore
set_option linter.unusedVariables false
set_option linter.unusedSimpArgs false
abbrev keyF (x:S33):ByteArray:=x.f0
theorem sort_done (l out:List S33) (i:Nat) (hi:i < l.length) (hl:l.length≤4294967296) (ho:out.length≤4294967296) (r:List S33):∀ (d j:Nat) (nx:List S33),out.length - j=d→j≤out.length→nx.length≤j + 1 →
  Ev (fun k=>barqueref09_Sort.l0 k l (nx ++ out.drop j) ((i + 1:Nat):Int)) r→Ev (fun k=>barqueref09_Sort.l1 k l out i nx true j) r:=by
 have hwi:wrap64 ((i:Int) + 1)=((i + 1:Nat):Int):=by rw [w64_ (by omega) (by omega)];omega
 intro d
 induction d with
 | zero =>
  intro j nx hd hj hn h
  have e:j=out.length:=by omega
  subst e
  apply Ev.step
  ·intro k;rw [barqueref09_Sort.l1]
  have c1:¬ ((out.length:Int) < (out.length:Int)):=by omega
  simp only [c1,↓reduceIte,hwi]
  rw [List.drop_eq_nil_of_le (Nat.le_refl _),List.append_nil] at h
  exact h
 | succ d ih =>
  intro j nx hd hj hn h
  have hlt:j < out.length:=by omega
  apply Ev.step
  ·intro k;rw [barqueref09_Sort.l1]
  have c1:((j:Int) < (out.length:Int)):=by omega
  have c2:(0:Int)≤(j:Int):=by omega
  have c3:nx.length < 3518437208883:=by omega
  have hw:wrap64 ((j:Int) + 1)=((j + 1:Nat):Int):=by rw [w64_ (by omega) (by omega)];omega
  simp only [c1,c2,c3,↓reduceIte,rdF_nat out j hlt,hw]
  refine ih (j + 1) _ (by omega) (by omega) (by rw [List.length_append,List.length_singleton];omega) ?_
  rw [List.append_assoc,List.singleton_append,← List.drop_eq_getElem_cons hlt]
  exact h
theorem fold_length (l:List S33):∀ acc:List S33,(l.foldl (fun a x=>insK keyF x a) acc).length=acc.length + l.length:=by
 induction l with
 | nil=>intro acc;rfl
 | cons x l ih =>
  intro acc
  rw [List.foldl_cons,ih,insK_length,List.length_cons]
  omega
theorem fold_mem (l:List S33):∀ (acc:List S33) (y:S33),y ∈ l.foldl (fun a x=>insK keyF x a) acc→y ∈ acc∨y ∈ l:=by
 induction l with
 | nil=>intro acc y h;exact .inl h
 | cons x l ih =>
  intro acc y h
  rw [List.foldl_cons] at h
  rcases ih _ y h with h|h
  ·rcases (insK_mem keyF x y acc).1 h with h|h
   ·exact .inr (by rw [h];exact List.mem_cons_self)
   ·exact .inl h
  ·exact .inr (List.mem_cons_of_mem _ h)
theorem order_l0W (a b:ByteArray) (ha:a.size≤9223372036854775807) (hb:b.size≤9223372036854775807) (m:Nat) (hm:m=min a.size b.size):∀ (d i:Nat),m - i=d→i≤m →
  a.data.toList.take i=b.data.toList.take i →
  Ev (fun k=>tree_Order.l0 k a b m i) (ordV (a.data.toList.drop i) (b.data.toList.drop i)):=by
 intro d
 induction d with
 | zero =>
  intro i hd hi hp
  have e:i=m:=by omega
  clear hd hi hp
  subst e
  apply Ev.step
  ·intro k;rw [tree_Order.l0]
  have c1:¬ ((i:Int) < (i:Int)):=by omega
  simp only [c1,↓reduceIte]
  rw [w64_ (by omega) (by omega)]
  have hv:ordV (a.data.toList.drop i) (b.data.toList.drop i)=(a.size:Int) - (b.size:Int):=by
   by_cases h:a.size≤b.size
   ·have e2:i=a.size:=by omega
    rw [show a.data.toList.drop i=[] from List.drop_eq_nil_of_le (by rw [sz_];omega),ordV,List.length_drop,sz_]
    omega
   ·have e2:i=b.size:=by omega
    rw [show b.data.toList.drop i=[] from List.drop_eq_nil_of_le (by rw [sz_];omega)]
    have hl:(a.data.toList.drop i).length=a.size - i:=by rw [List.length_drop,sz_]
    cases hx:a.data.toList.drop i with
    | nil=>rw [hx] at hl;simp at hl;omega
    | cons c x =>
     rw [hx] at hl
     rw [ordV,hl]
     ·omega
     ·simp
  rw [hv]
  exact Ev.now _
 | succ d ih =>
  intro i hd hi hp
  have hlt:i < m:=by omega
  have hia:i < a.size:=by omega
  have hib:i < b.size:=by omega
  have hla:i < a.data.toList.length:=by rw [sz_];exact hia
  have hlb:i < b.data.toList.length:=by rw [sz_];exact hib
  apply Ev.step
  ·intro k;rw [tree_Order.l0]
  have c1:((i:Int) < (m:Int)):=by omega
  have c2:(0:Int)≤(i:Int):=by omega
  have c3:((i:Int) < (a.size:Int)):=by omega
  have c4:((i:Int) < (b.size:Int)):=by omega
  have hw:wrap64 ((i:Int) + 1)=((i + 1:Nat):Int):=by rw [w64_ (by omega) (by omega)];omega
  simp only [c1,c2,c3,c4,↓reduceIte,hw,bt_nat a i hia,bt_nat b i hib]
  rw [List.drop_eq_getElem_cons hla,List.drop_eq_getElem_cons hlb]
  obtain ⟨x,hx⟩:∃ x,a.data.toList[i]'hla=x:=⟨_,rfl⟩
  obtain ⟨y,hy⟩:∃ y,b.data.toList[i]'hlb=y:=⟨_,rfl⟩
  simp only [hx,hy]
  have bx:=x.toNat_lt
  have by_:=y.toNat_lt
  rw [w64_ (i:=(x.toNat:Int)) (by omega) (by omega),w64_ (i:=(y.toNat:Int)) (by omega) (by omega)]
  unfold ordV
  by_cases h:x=y
  ·subst h
   simp only [↓reduceIte]
   refine ih (i + 1) (by omega) (by omega) ?_
   rw [List.take_succ_eq_append_getElem hla,List.take_succ_eq_append_getElem hlb,hp,hx,hy]
  ·have h':¬ ((x.toNat:Int)=(y.toNat:Int)):=fun e=>h (UInt8.toNat_inj.1 (Int.ofNat.inj e))
   simp only [h,h',↓reduceIte]
   have e47:∀ c:UInt8,((c.toNat:Int)=47) ↔ c=47:=fun c=>⟨fun e=>UInt8.toNat_inj.1 (Int.ofNat.inj e),fun e=>by rw [e];rfl⟩
   simp only [e47]
   by_cases h1:x=47
   ·simp only [h1,↓reduceIte];exact Ev.now _
   ·by_cases h2:y=47
    ·simp only [h1,h2,↓reduceIte];exact Ev.now _
    ·simp only [h1,h2,↓reduceIte]
     rw [w64_ (by omega) (by omega)]
     exact Ev.now _
theorem order_evW (a b:ByteArray) (ha:a.size≤9223372036854775807) (hb:b.size≤9223372036854775807):Ev (fun k=>tree_Order.f k a b) (ordV a.data.toList b.data.toList):=by
 unfold tree_Order.f
 have hm:mn (a.size:Int) (b.size:Int)=((min a.size b.size:Nat):Int):=by
  unfold mn
  split <;> omega
 rw [hm]
 have h:=order_l0W a b ha hb (min a.size b.size) rfl (min a.size b.size) 0 (by omega) (by omega) rfl
 simpa using h
theorem reforder_l0W (a b:ByteArray) (ha:a.size≤9223372036854775807) (hb:b.size≤9223372036854775807):∀ (d i:Nat),max a.size b.size - i=d →
  i≤9223372036854775807→Ev (fun k=>barqueref09_Order.l0 k a b i) (cmpL (a.data.toList.drop i) (b.data.toList.drop i)):=by
 intro d
 induction d with
 | zero =>
  intro i hd hi
  apply Ev.step
  ·intro k;rw [barqueref09_Order.l0]
  have c1:¬ ((i:Int) < (a.size:Int)):=by omega
  have c2:decide ((i:Int) < (b.size:Int))=false:=by simp;omega
  simp only [c1,c2,↓reduceIte]
  rw [show a.data.toList.drop i=[] from List.drop_eq_nil_of_le (by rw [sz_];omega),show b.data.toList.drop i=[] from List.drop_eq_nil_of_le (by rw [sz_];omega)]
  apply Ev.step
  ·intro k;rw [barqueref09_Order.j1]
  simp only [Bool.false_eq_true,↓reduceIte]
  exact Ev.now _
 | succ d ih =>
  intro i hd hi
  have main:Ev (fun k=>barqueref09_Order.j1 k a b i true) (cmpL (a.data.toList.drop i) (b.data.toList.drop i)):=by
   apply reforder_j1
   apply Ev.step
   ·intro k;rw [barqueref09_Order.j3]
   have hw:wrap64 ((i:Int) + 1)=((i + 1:Nat):Int):=by rw [w64_ (by omega) (by omega)];omega
   rw [hw]
   by_cases h1:i < a.size <;> by_cases h2:i < b.size
   ·have hla:i < a.data.toList.length:=by rw [sz_];exact h1
    have hlb:i < b.data.toList.length:=by rw [sz_];exact h2
    rw [keyI_in a i h1,keyI_in b i h2]
    have hih:=ih (i + 1) (by omega) (by omega)
    rw [List.drop_eq_getElem_cons hla,List.drop_eq_getElem_cons hlb]
    obtain ⟨x,hx⟩:∃ x,a.data.toList[i]'hla=x:=⟨_,rfl⟩
    obtain ⟨y,hy⟩:∃ y,b.data.toList[i]'hlb=y:=⟨_,rfl⟩
    rw [hx,hy]
    unfold cmpL
    by_cases he:x=y
    ·subst he
     have c1:¬ ((keyB x:Int) < (keyB x:Int)):=by omega
     have c2:¬ ((keyB x:Int) > (keyB x:Int)):=by omega
     simp only [c1,c2,↓reduceIte]
     exact hih
    ·have hk:keyB x ≠ keyB y:=fun e=>he (keyB_inj e)
     by_cases h3:keyB x < keyB y
     ·have c1:((keyB x:Int) < (keyB y:Int)):=by omega
      simp only [c1,he,h3,↓reduceIte]
      exact Ev.now _
     ·have c1:¬ ((keyB x:Int) < (keyB y:Int)):=by omega
      have c2:((keyB x:Int) > (keyB y:Int)):=by omega
      simp only [c1,c2,he,h3,↓reduceIte]
      exact Ev.now _
   ·have hla:i < a.data.toList.length:=by rw [sz_];exact h1
    rw [keyI_in a i h1,keyI_out b i h2,List.drop_eq_getElem_cons hla,show b.data.toList.drop i=[] from List.drop_eq_nil_of_le (by rw [sz_];omega),cmpL]
    have c1:¬ ((keyB (a.data.toList[i]'hla):Int) < -1):=by omega
    have c2:((keyB (a.data.toList[i]'hla):Int) > -1):=by omega
    simp only [c1,c2,↓reduceIte]
    exact Ev.now _
   ·have hlb:i < b.data.toList.length:=by rw [sz_];exact h2
    rw [keyI_out a i h1,keyI_in b i h2,List.drop_eq_getElem_cons hlb,show a.data.toList.drop i=[] from List.drop_eq_nil_of_le (by rw [sz_];omega),cmpL]
    have c1:((-1:Int) < (keyB (b.data.toList[i]'hlb):Int)):=by omega
    simp only [c1,↓reduceIte]
    exact Ev.now _
   ·omega
  apply Ev.step
  ·intro k;rw [barqueref09_Order.l0]
  by_cases h1:i < a.size
  ·have c1:((i:Int) < (a.size:Int)):=by omega
   simp only [c1,↓reduceIte]
   exact main
  ·have c1:¬ ((i:Int) < (a.size:Int)):=by omega
   have c2:decide ((i:Int) < (b.size:Int))=true:=by simp;omega
   simp only [c1,c2,↓reduceIte]
   exact main
theorem reforder_evW (a b:ByteArray) (ha:a.size≤9223372036854775807) (hb:b.size≤9223372036854775807):Ev (fun k=>barqueref09_Order.f k a b) (cmpL a.data.toList b.data.toList):=by
 unfold barqueref09_Order.f
 have h:=reforder_l0W a b ha hb _ 0 rfl (by omega)
 simpa using h
theorem sort_findW (l out:List S33) (i:Nat) (hi:i < l.length) (hl:l.length≤4294967296) (ho:out.length≤4294967296) (hx:(l[i]'hi).f0.size≤9223372036854775807) (hy:∀ y ∈ out,y.f0.size≤9223372036854775807) (r:List S33):∀ (d j:Nat) (nx:List S33),out.length - j=d→j≤out.length→nx.length≤j →
  Ev (fun k=>barqueref09_Sort.l0 k l (nx ++ insK keyF (l[i]'hi) (out.drop j)) ((i + 1:Nat):Int)) r→Ev (fun k=>barqueref09_Sort.l1 k l out i nx false j) r:=by
 have hwi:wrap64 ((i:Int) + 1)=((i + 1:Nat):Int):=by rw [w64_ (by omega) (by omega)];omega
 have ci:((i:Int) < (l.length:Int)):=by omega
 have ci0:(0:Int)≤(i:Int):=by omega
 intro d
 induction d with
 | zero =>
  intro j nx hd hj hn h
  have e:j=out.length:=by omega
  subst e
  apply Ev.step
  ·intro k;rw [barqueref09_Sort.l1]
  have c1:¬ ((out.length:Int) < (out.length:Int)):=by omega
  have c3:nx.length < 3518437208883:=by omega
  simp only [c1,ci,ci0,c3,↓reduceIte,Bool.false_eq_true,hwi,rdF_nat l i hi]
  rw [List.drop_eq_nil_of_le (Nat.le_refl _),insK] at h
  exact h
 | succ d ih =>
  intro j nx hd hj hn h
  have hlt:j < out.length:=by omega
  apply Ev.step
  ·intro k;rw [barqueref09_Sort.l1]
  have c1:((j:Int) < (out.length:Int)):=by omega
  have c2:(0:Int)≤(j:Int):=by omega
  have c3:nx.length < 3518437208883:=by omega
  have hw:wrap64 ((j:Int) + 1)=((j + 1:Nat):Int):=by rw [w64_ (by omega) (by omega)];omega
  simp only [c1,c2,c3,ci,ci0,↓reduceIte,Bool.false_eq_true,rdF_nat out j hlt,rdF_nat l i hi,hw,Option.bind_some]
  refine Ev.bind (reforder_evW _ _ hx (hy _ (List.getElem_mem hlt))) ?_
  rw [List.drop_eq_getElem_cons hlt,insK] at h
  by_cases c:ltP (l[i]'hi).f0 (out[j]'hlt).f0
  ·rw [if_pos c] at h
   have c':cmpL (l[i]'hi).f0.data.toList (out[j]'hlt).f0.data.toList < 0:=c
   simp only [c',↓reduceIte]
   have c4':(nx ++ [({ f0:=(l[i]'hi).f0,f1:=(l[i]'hi).f1,f2:=(l[i]'hi).f2 }:S33)]).length < 3518437208883:=by rw [List.length_append,List.length_singleton];omega
   simp only [c4',↓reduceIte]
   clear c4'
   refine sort_done l out i hi hl ho r (out.length - (j + 1)) (j + 1) _ rfl (by omega) (by simp only [List.length_append,List.length_singleton];omega) ?_
   rw [List.append_assoc,List.append_assoc,List.singleton_append,List.singleton_append]
   exact h
  ·rw [if_neg c] at h
   have c':¬ cmpL (l[i]'hi).f0.data.toList (out[j]'hlt).f0.data.toList < 0:=c
   simp only [c',↓reduceIte]
   refine ih (j + 1) _ (by omega) (by omega) (by simp only [List.length_append,List.length_singleton];omega) ?_
   rw [List.append_assoc,List.singleton_append]
   exact h
theorem refsort_l0W (l:List S33) (hl:l.length≤4294967296) (hs:∀ x ∈ l,x.f0.size≤9223372036854775807):∀ (d i:Nat) (out:List S33),l.length - i=d→i≤l.length→out=(l.take i).foldl (fun a x=>insK keyF x a) [] →
  Ev (fun k=>barqueref09_Sort.l0 k l out i) (sortK keyF l):=by
 intro d
 induction d with
 | zero =>
  intro i out hd hi ho
  have e:i=l.length:=by omega
  subst e
  apply Ev.step
  ·intro k;rw [barqueref09_Sort.l0]
  have c1:¬ ((l.length:Int) < (l.length:Int)):=by omega
  simp only [c1,↓reduceIte]
  rw [List.take_length] at ho
  rw [ho]
  exact Ev.now _
 | succ d ih =>
  intro i out hd hi ho
  have hlt:i < l.length:=by omega
  have hol:out.length=i:=by rw [ho,fold_length,List.length_nil,List.length_take];omega
  apply Ev.step
  ·intro k;rw [barqueref09_Sort.l0]
  have c1:((i:Int) < (l.length:Int)):=by omega
  simp only [c1,↓reduceIte]
  refine sort_findW l out i hlt hl (by omega) (hs _ (List.getElem_mem hlt)) (fun y hy=>?_) _ out.length 0 [] (by omega) (by omega) (by simp) ?_
  ·rw [ho] at hy
   rcases fold_mem _ _ y hy with h|h
   ·simp at h
   ·exact hs y (List.mem_of_mem_take h)
  ·rw [List.nil_append,List.drop_zero]
   refine ih (i + 1) _ (by omega) (by omega) ?_
   rw [List.take_succ_eq_append_getElem hlt,List.foldl_append,← ho]
   rfl
theorem refsort_evW (l:List S33) (hl:l.length≤4294967296) (hs:∀ x ∈ l,x.f0.size≤9223372036854775807):Ev (fun k=>barqueref09_Sort.f k l) (sortK keyF l):=by
 unfold barqueref09_Sort.f
 have h:=refsort_l0W l hl hs l.length 0 [] (by omega) (by omega) rfl
 simpa using h
end Go.Proofs.YtmeofdpmddjbgaaDoor.G
end
section
namespace Go.Proofs.YtmeofdpmddjbgaaDoor.G
open Go.RowKit Go.Proofs.YtmeofdpmddjbgaaDoorW.PrintWords Go.Proofs.YtmeofdpmddjbgaaDoorW.PrintLast Go.Proofs.YtmeofdpmddjbgaaDoorW.PrintMore
attribute [local go_sem] max2_int min2_int max_two min_two max_three min_three max_four min_four   
set_option linter.unusedVariables false
set_option linter.unusedSimpArgs false
def tree_Sort_1.f (k:Nat) (a0_0:ByteArray) (a0_1:Int) (a0_2:ByteArray) (a1_0:ByteArray) (a1_1:Int) (a1_2:ByteArray):Option (Int):=(tree_Order.f k a0_0 a1_0).bind fun t579=>(some t579)
set_option maxHeartbeats 8000000 in
set_option maxRecDepth 100000 in
theorem tree_Sort_1.calls (k:Nat) (a0_0:ByteArray) (a0_1:Int) (a0_2:ByteArray) (a1_0:ByteArray) (a1_1:Int) (a1_2:ByteArray) (r:Int) (w:World) (h:tree_Sort_1.f k a0_0 a0_1 a0_2 a1_0 a1_1 a1_2=some r) :
  Calls Tryd.prog 70 #[.agg #[.string a0_0,.int .i64 a0_1,.string a0_2],.agg #[.string a1_0,.int .i64 a1_1,.string a1_2]] w fun e w'=>e=.returned (.int .i64 r)∧Below w.heap.size w w':=by
 have hu33:=Tryd.underlying33;have HB:=Aside0.mk (Below.refl w.heap.size w);have H:((tree_Order.f k a0_0 a1_0).bind fun t579=>(some t579))=some r:=h;clear h;replace H:=Option.bind_eq_some_iff.mp H;obtain ⟨t579,A30,H⟩:=H;replace H:(some t579)=some r:=H;have A3:=Aside0.mk A30;clear A30;obtain rfl:=Option.some.inj H;go_enter Tryd.func70,Tryd.ntmps70;go_wp2_with (first|((with_reducible refine gate_dst (N:=2) rfl ?_);refine box_event ?hg (N:=2) ?hd (cs:=#[.string a0_0,.int .i64 a0_1,.string a0_2]) (t:=33) ?hr ?_;(case hd=>rfl);(case hg=>rfl);(case hr=>first|(go_simp;done)|(go_simp;rfl));intro gb577 hg w4 hbox hb;have n0_:=Aside0.mk (below_step (by repeat (first|(with_reducible first|exact HB.out|apply bal|apply bdN|apply bd1)|exact HB.out)) hb);have n1_:=Aside0.mk (hbox);have n2_:=Aside0.mk ((by rw [hg];exact (below_size (by repeat (first|(with_reducible first|exact HB.out|apply bal|apply bdN|apply bd1)|exact HB.out))):w.heap.size≤gb577));have n3_:=Aside0.mk ((by rw [hg];exact (below_size (by repeat (first|(with_reducible first|exact HB.out|apply bal|apply bdN|apply bd1)|exact HB.out))):w.heap.size≤gb577));clear HB;have HB:=n0_;have BK577:=n1_;have GW577:=n2_;have GE577:=n3_;clear n0_ n1_ n2_ n3_;clear hb hbox hg)|((with_reducible refine gate_dst (N:=3) rfl ?_);refine box_event ?hg (N:=3) ?hd (cs:=#[.string a1_0,.int .i64 a1_1,.string a1_2]) (t:=33) ?hr ?_;(case hd=>rfl);(case hg=>rfl);(case hr=>first|(go_simp;done)|(go_simp;rfl));intro gb578 hg w5 hbox hb;have n0_:=Aside0.mk (blk_below (g:=gb577) (o:=.cells #[.string a0_0,.int .i64 a0_1,.string a0_2] 33 (0,0)) (by (with_reducible repeat (first|refine blk_drewN ?_ _|refine blk_drew ?_|refine blk_alloc ?_ _));exact BK577.out) hb);have n1_:=Aside0.mk (below_step (by repeat (first|(with_reducible first|exact HB.out|apply bal|apply bdN|apply bd1|refine below_set ?_ GE577.out)|exact HB.out)) hb);have n2_:=Aside0.mk (hbox);have n3_:=Aside0.mk ((by rw [hg];exact (below_size (by repeat (first|(with_reducible first|exact HB.out|apply bal|apply bdN|apply bd1|refine below_set ?_ GE577.out)|exact HB.out))):w.heap.size≤gb578));have n4_:=Aside0.mk ((by rw [hg];exact (below_size (by repeat (first|(with_reducible first|exact HB.out|apply bal|apply bdN|apply bd1|refine below_set ?_ GE577.out)|exact HB.out))):w.heap.size≤gb578));have n5_:=Aside0.mk ((by rw [hg];exact Nat.ne_of_lt (blk_lt (g:=gb577) (o:=.cells #[.string a0_0,.int .i64 a0_1,.string a0_2] 33 (0,0)) (by (with_reducible repeat (first|refine blk_drewN ?_ _|refine blk_drew ?_|refine blk_alloc ?_ _));exact BK577.out)):gb577 ≠ gb578));have n6_:=Aside0.mk ((by rw [hg];exact Nat.ne_of_gt (blk_lt (g:=gb577) (o:=.cells #[.string a0_0,.int .i64 a0_1,.string a0_2] 33 (0,0)) (by (with_reducible repeat (first|refine blk_drewN ?_ _|refine blk_drew ?_|refine blk_alloc ?_ _));exact BK577.out)):gb578 ≠ gb577));clear BK577;clear HB;have BK577:=n0_;have HB:=n1_;have BK578:=n2_;have GW578:=n3_;have GE578:=n4_;have NB577_578:=n5_;have NB578_577:=n6_;clear n0_ n1_ n2_ n3_ n4_ n5_ n6_;clear hb hbox hg;have hnb6:=NB577_578.out;have hnc6:=NB578_577.out;have hcz7_0:w5.cell? ⟨gb577,0,none⟩=some (.string a0_0):=(blk_cell BK577.out 0).trans rfl;have hcz7_1:w5.cell? ⟨gb577,1,none⟩=some (.int .i64 a0_1):=(blk_cell BK577.out 1).trans rfl;have hcz7_2:w5.cell? ⟨gb577,2,none⟩=some (.string a0_2):=(blk_cell BK577.out 2).trans rfl;have hfz7_0:=blk_frozen BK577.out 0;have hfz7_1:=blk_frozen BK577.out 1;have hfz7_2:=blk_frozen BK577.out 2;have hcz8_0:w5.cell? ⟨gb578,0,none⟩=some (.string a1_0):=(blk_cell BK578.out 0).trans rfl;have hcz8_1:w5.cell? ⟨gb578,1,none⟩=some (.int .i64 a1_1):=(blk_cell BK578.out 1).trans rfl;have hcz8_2:w5.cell? ⟨gb578,2,none⟩=some (.string a1_2):=(blk_cell BK578.out 2).trans rfl;have hfz8_0:=blk_frozen BK578.out 0;have hfz8_1:=blk_frozen BK578.out 1;have hfz8_2:=blk_frozen BK578.out 2)|((with_reducible refine gate_callee (f:=63) rfl ?_);refine goesL_ (some 9) rfl rfl Tryd.func63 (by kernel_rfl) rfl #[.string a0_0,.string a1_0] rfl (by (try simp only [List.map_toArray,List.map_cons,List.map_nil]);first|done|rfl|(simp only [List.length_drop,List.length_take];rfl)) ?_;(with_reducible refine (tree_Order.calls k a0_0 a1_0 t579 _ A3.out).mono ?_);rintro e w9 ⟨rfl,hb⟩;refine ⟨_,rfl,?_⟩;have n0_:=Aside0.mk (blk_below (g:=gb577) (o:=.cells #[.string a0_0,.int .i64 a0_1,.string a0_2] 33 (0,0)) (by (with_reducible repeat (first|refine blk_drewN ?_ _|refine blk_drew ?_|refine blk_alloc ?_ _));exact BK577.out) hb);have n1_:=Aside0.mk (blk_below (g:=gb578) (o:=.cells #[.string a1_0,.int .i64 a1_1,.string a1_2] 33 (0,0)) (by (with_reducible repeat (first|refine blk_drewN ?_ _|refine blk_drew ?_|refine blk_alloc ?_ _));exact BK578.out) hb);have n2_:=Aside0.mk (below_step (by repeat (first|(with_reducible first|exact HB.out|apply bal|apply bdN|apply bd1|refine below_set ?_ GE577.out|refine below_set ?_ GE578.out)|exact HB.out)) hb);clear BK577;clear BK578;clear HB;have BK577:=n0_;have BK578:=n1_;have HB:=n2_;clear n0_ n1_ n2_;(try clear hb);(try clear hb2);(try clear hk);(try clear hi)));go_ret;exact ⟨by first|rfl|(simp [errW_none,errW_some] <;> rfl)|(simp [*,errW_none,errW_some] <;> rfl),by repeat (first|(with_reducible first|exact HB.out|apply bal|apply bdN|apply bd1|refine below_set ?_ GE577.out|refine below_set ?_ GE578.out)|exact HB.out)⟩
end Go.Proofs.YtmeofdpmddjbgaaDoor.G
end
