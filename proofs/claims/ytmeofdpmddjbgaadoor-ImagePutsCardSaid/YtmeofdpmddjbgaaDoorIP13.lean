/- Texts of this session's claim of ImagePuts, less what its theorem does not reach. No condition. -/
import Derived.Laws.Bits128
import Derived.Laws.BitsLemmas
import Derived.Test.YtmeofdpmddjbgaaDoorProg
import Derived.Test.YtmeofdpmddjbgaaDoorIP1
import Derived.Test.YtmeofdpmddjbgaaDoorIP2
import Derived.Test.YtmeofdpmddjbgaaDoorIP10
import Derived.Test.YtmeofdpmddjbgaaDoorIP11
import Derived.Test.YtmeofdpmddjbgaaDoorIP12
section
namespace Go.Proofs.YtmeofdpmddjbgaaDoor.G
open Go.RowKit Go.Proofs.YtmeofdpmddjbgaaDoorW.PrintWords Go.Proofs.YtmeofdpmddjbgaaDoorW.PrintLast Go.Proofs.YtmeofdpmddjbgaaDoorW.PrintMore
attribute [local go_sem] max2_int min2_int max_two min_two max_three min_three max_four min_four   
set_option linter.unusedVariables false
set_option linter.unusedSimpArgs false
mutual
def barqueref10_Of.l0:Nat→List (S33)→ByteArray→Int→Option (ByteArray × Int)
 | 0,_,_,_=>none
 | k + 1,x0,x5,x6=>if x6 < (x0.length:Int) then (if 0≤x6 then ((barqueref01_Text.f k ((rd_T33 x0 x6).f0)).bind fun bt176=>(if x5.size + bt176.1.size≤9223372036854775807 then ((barqueref01_Bytes.f k ((rd_T33 x0 x6).f1)).bind fun t179=>(if (x5 ++ bt176.1).size + t179.size≤9223372036854775807 then ((barqueref01_Bytes.f k (((rd_T33 x0 x6).f2).size:Int)).bind fun t181=>(if ((x5 ++ bt176.1) ++ t179).size + t181.size≤9223372036854775807 then (barqueref10_Of.l0 k x0 (((x5 ++ bt176.1) ++ t179) ++ t181) (wrap64 (x6 + 1))) else (none))) else (none))) else (none))) else (none)) else (barqueref10_Of.l1 k x0 x5 0)
def barqueref10_Of.l1:Nat→List (S33)→ByteArray→Int→Option (ByteArray × Int)
 | 0,_,_,_=>none
 | k + 1,x0,x5,x9=>if x9 < (x0.length:Int) then (if 0≤x9 then (if x5.size + ((rd_T33 x0 x9).f2).size≤9223372036854775807 then (if ((x5 ++ ((rd_T33 x0 x9).f2)).size:Int) > 524288 then (some ((⟨#[]⟩:ByteArray),4)) else (barqueref10_Of.l1 k x0 (x5 ++ ((rd_T33 x0 x9).f2)) (wrap64 (x9 + 1)))) else (none)) else (none)) else (some (x5,0))
end
def barqueref10_Of.f (k:Nat) (l0:List (S33)):Option (ByteArray × Int):=(barqueref09_Check.f k l0).bind fun t173=>(if t173=0 then ((barqueref01_Bytes.f k (l0.length:Int)).bind fun t174=>(barqueref10_Of.l0 k l0 t174 0)) else (some ((⟨#[]⟩:ByteArray),t173)))
def barqueref10_Of.T9:Bool × List (List Nat × List Nat):=(true,[([],[]),([],[]),([0,1],[0,1]),([],[]),([],[]),([3,4],[3,4]),([5],[5]),([6],[6]),([7],[7]),([2,8],[2,8]),([],[]),([],[]),([10,11],[10,11]),([12],[12]),([13],[13]),([14],[14]),([15,8],[15]),([9,16],[9,16]),([17,16,0,1,2,3,4,5,6,7,8,9,10,11,12,13,14,15,16,17],[0,17])])
def barqueref10_Of.B9:List Nat:=[0,0,3,0,0,24,56,120,248,511,0,0,3072,7168,15360,31744,65016,131071,262143]
theorem barqueref10_Of.tab9:rtab .any (opsOf Tryd.f13 9)=barqueref10_Of.T9:=by kernel_rfl
theorem barqueref10_Of.bits9:waitsOk barqueref10_Of.T9.2 barqueref10_Of.B9=true:=by kernel_rfl
set_option maxHeartbeats 8000000 in
set_option maxRecDepth 100000 in
theorem barqueref10_Of.calls (k:Nat) (A0:Option Addr) (c0:Nat) (l0:List (S33)) (r1:ByteArray) (r2:Int) (w:World) (hr0:Kd.C k33 w A0 l0.length l0) (hc0:l0.length≤c0) (h:barqueref10_Of.f k l0=some (r1,r2)) :
  Calls Tryd.prog 13 #[.slice A0 l0.length c0] w fun e w'=>e=.returned (.tuple #[.string r1,.int .i64 r2])∧Below w.heap.size w w':=by
 have HR0:=Aside0.mk hr0;have HC0:=Aside0.mk hc0;clear hr0 hc0;have HB:=Aside0.mk (Below.refl w.heap.size w);have H:((barqueref09_Check.f k l0).bind fun t173=>(if t173=0 then ((barqueref01_Bytes.f k (l0.length:Int)).bind fun t174=>(barqueref10_Of.l0 k l0 t174 0)) else (some ((⟨#[]⟩:ByteArray),t173))))=some (r1,r2):=h;clear h;replace H:=Option.bind_eq_some_iff.mp H;obtain ⟨t173,A20,H⟩:=H;replace H:(if t173=0 then ((barqueref01_Bytes.f k (l0.length:Int)).bind fun t174=>(barqueref10_Of.l0 k l0 t174 0)) else (some ((⟨#[]⟩:ByteArray),t173)))=some (r1,r2):=H;have A2:=Aside0.mk A20;clear A20;by_cases c3:t173=0
 ·rw [if_pos c3] at H;have c3b0:(t173 == 0)=true:=beq_iff_eq.mpr c3;have c3b1:(t173 != 0)=false:=bne_eq_false_iff_eq.mpr c3;clear c3;replace H:=Option.bind_eq_some_iff.mp H;obtain ⟨t174,A40,H⟩:=H;replace H:(barqueref10_Of.l0 k l0 t174 0)=some (r1,r2):=H;have A4:=Aside0.mk A40;clear A40;have H':=Aside0.mk H;clear H;go_enter Tryd.func13,Tryd.ntmps13;go_wp2_with (first|((with_reducible refine gate_callee (f:=33) rfl ?_);refine goesL_ (some 11) rfl rfl Tryd.func33 (by kernel_rfl) rfl #[.slice A0 l0.length c0] rfl (by (try simp only [List.map_toArray,List.map_cons,List.map_nil]);first|done|rfl|(simp only [List.length_drop,List.length_take];rfl)) ?_;(with_reducible refine (barqueref09_Check.calls k _ _ l0 t173 _ ?side1 ?side2 A2.out).mono ?_);(case side1=>repeat (first|exact HR0.out|(with_reducible refine Kd.C_alloc ?_ _)|(with_reducible refine Kd.C_drewN ?_ _)|(with_reducible refine Kd.C_drew ?_)));(case side2=>exact HC0.out);rintro e w5 ⟨rfl,hb⟩;refine ⟨_,rfl,?_⟩;have n0_:=Aside0.mk (below_step (by repeat (first|(with_reducible first|exact HB.out|apply bal|apply bdN|apply bd1)|exact HB.out)) hb);clear HB;have HB:=n0_;clear n0_;(try clear hb);(try clear hb2);(try clear hk);(try clear hi))|((with_reducible refine gate_callee (f:=34) rfl ?_);refine goesL_ (some 17) rfl rfl Tryd.func34 (by kernel_rfl) rfl #[.int .i64 (l0.length:Int)] rfl (by (try simp only [List.map_toArray,List.map_cons,List.map_nil]);first|done|rfl|(simp only [List.length_drop,List.length_take];rfl)) ?_;(with_reducible refine (barqueref01_Bytes.calls k (l0.length:Int) t174 _ A4.out).mono ?_);rintro e w6 ⟨rfl,hb⟩;refine ⟨_,rfl,?_⟩;have n0_:=Aside0.mk (below_step (by repeat (first|(with_reducible first|exact HB.out|apply bal|apply bdN|apply bd1)|exact HB.out)) hb);clear HB;have HB:=n0_;clear n0_;(try clear hb);(try clear hb2);(try clear hk);(try clear hi)));go_loopg [5,6] k (fun kq v5 v6 w'=>∃ (x5_1:ByteArray) (x6_1:Int),v5=.string x5_1∧v6=.int .i64 x6_1∧Aside0 (barqueref10_Of.l0 kq l0 x5_1 x6_1=some (r1,r2))∧Aside0 (kq≤k)∧Aside0 (Below w.heap.size w w'))
  case atStart=>exact ⟨(t174),(0),(by first|rfl|(simp;done)|(simp [*];done)),(by first|rfl|(simp;done)|(simp [*];done)),H',⟨Nat.le_refl _⟩,⟨by repeat (first|(with_reducible first|exact HB.out|apply bal|apply bdN|apply bd1)|exact HB.out)⟩⟩
  case round =>
   clear H';(try clear c1);(try clear p2);(try clear c3);(try clear c3b0);(try clear c3b1);obtain ⟨x5_1,x6_1,rfl,rfl,HA,HK1,HB⟩:=hrel
   cases gk with
   | zero=>exact absurd HA.out (by simp [barqueref10_Of.l0])
   | succ k1 =>
    have H:=HA.out;clear HA;simp only [barqueref10_Of.l0] at H;by_cases c7:x6_1 < (l0.length:Int)
    ·rw [if_pos c7] at H;have c7b0:decide (x6_1 < (l0.length:Int))=true:=decide_eq_true c7;clear c7;by_cases c8:0≤x6_1
     ·rw [if_pos c8] at H;have c8b0:decide (0≤x6_1)=true:=decide_eq_true c8;clear c8;replace H:=Option.bind_eq_some_iff.mp H;obtain ⟨⟨t176,t177⟩,A90,H⟩:=H;replace H:(if x5_1.size + t176.size≤9223372036854775807 then ((barqueref01_Bytes.f k1 ((rd_T33 l0 x6_1).f1)).bind fun t179=>(if (x5_1 ++ t176).size + t179.size≤9223372036854775807 then ((barqueref01_Bytes.f k1 (((rd_T33 l0 x6_1).f2).size:Int)).bind fun t181=>(if ((x5_1 ++ t176) ++ t179).size + t181.size≤9223372036854775807 then (barqueref10_Of.l0 k1 l0 (((x5_1 ++ t176) ++ t179) ++ t181) (wrap64 (x6_1 + 1))) else (none))) else (none))) else (none))=some (r1,r2):=H;have A9:=Aside0.mk A90;clear A90;by_cases c10:x5_1.size + t176.size≤9223372036854775807
      ·rw [if_pos c10] at H;have c10b0:=eq_true c10;have c10b1:decide (x5_1.size + t176.size≤9223372036854775807)=true:=decide_eq_true c10;(try have c10b2:(9223372036854775807 < x5_1.size + t176.size)=False:=eq_false (Nat.not_lt.2 c10));(try (have c10b3:=c10b2;simp only [ByteArray.size_append] at c10b3));replace H:=Option.bind_eq_some_iff.mp H;obtain ⟨t179,A110,H⟩:=H;replace H:(if (x5_1 ++ t176).size + t179.size≤9223372036854775807 then ((barqueref01_Bytes.f k1 (((rd_T33 l0 x6_1).f2).size:Int)).bind fun t181=>(if ((x5_1 ++ t176) ++ t179).size + t181.size≤9223372036854775807 then (barqueref10_Of.l0 k1 l0 (((x5_1 ++ t176) ++ t179) ++ t181) (wrap64 (x6_1 + 1))) else (none))) else (none))=some (r1,r2):=H;have A11:=Aside0.mk A110;clear A110;by_cases c12:(x5_1 ++ t176).size + t179.size≤9223372036854775807
       ·rw [if_pos c12] at H;have c12b0:=eq_true c12;have c12b1:decide ((x5_1 ++ t176).size + t179.size≤9223372036854775807)=true:=decide_eq_true c12;(try (have c12b1e:=c12b1;simp only [ByteArray.size_append] at c12b1e));(try (have c12b1f:=c12b1;simp only [ByteArray.size_append,Int.natCast_add] at c12b1f));(try have c12b2:(9223372036854775807 < (x5_1 ++ t176).size + t179.size)=False:=eq_false (Nat.not_lt.2 c12));(try (have c12b3:=c12b2;simp only [ByteArray.size_append] at c12b3));replace H:=Option.bind_eq_some_iff.mp H;obtain ⟨t181,A130,H⟩:=H;replace H:(if ((x5_1 ++ t176) ++ t179).size + t181.size≤9223372036854775807 then (barqueref10_Of.l0 k1 l0 (((x5_1 ++ t176) ++ t179) ++ t181) (wrap64 (x6_1 + 1))) else (none))=some (r1,r2):=H;have A13:=Aside0.mk A130;clear A130;by_cases c14:((x5_1 ++ t176) ++ t179).size + t181.size≤9223372036854775807
        ·rw [if_pos c14] at H;have c14b0:=eq_true c14;have c14b1:decide (((x5_1 ++ t176) ++ t179).size + t181.size≤9223372036854775807)=true:=decide_eq_true c14;(try (have c14b1e:=c14b1;simp only [ByteArray.size_append] at c14b1e));(try (have c14b1f:=c14b1;simp only [ByteArray.size_append,Int.natCast_add] at c14b1f));(try have c14b2:(9223372036854775807 < ((x5_1 ++ t176) ++ t179).size + t181.size)=False:=eq_false (Nat.not_lt.2 c14));(try (have c14b3:=c14b2;simp only [ByteArray.size_append] at c14b3));have H':=Aside0.mk H;clear H;have p175:0≤(x6_1:Int):=of_decide_eq_true (by first|(with_reducible assumption)|assumption);have q175:x6_1 < (l0.length:Int):=of_decide_eq_true (by first|(with_reducible assumption)|assumption);obtain ⟨ad175,e175,hx175_0,hx175_1,hx175_2⟩:=at_T33 HR0.out x6_1 p175 q175;cases e175;replace hx175_0:=(HB.out.cell (World.block_lt_of_cell? w _ hx175_0)).trans hx175_0;replace hx175_1:=(HB.out.cell (World.block_lt_of_cell? w _ hx175_1)).trans hx175_1;replace hx175_2:=(HB.out.cell (World.block_lt_of_cell? w _ hx175_2)).trans hx175_2;replace p175:=eq_true p175;replace q175:=eq_true q175;(try go_wp2_with (first|((with_reducible refine gate_callee (f:=35) rfl ?_);refine goesL_ (some 30) rfl rfl Tryd.func35 (by kernel_rfl) rfl #[.string ((rd_T33 l0 x6_1).f0)] rfl (by (try simp only [List.map_toArray,List.map_cons,List.map_nil]);first|done|rfl|(simp only [List.length_drop,List.length_take];rfl)) ?_;(with_reducible refine (barqueref01_Text.calls k1 ((rd_T33 l0 x6_1).f0) t176 t177 _ A9.out).mono ?_);rintro e w15 ⟨rfl,hb⟩;refine ⟨_,rfl,?_⟩;have n0_:=Aside0.mk (below_step (by repeat (first|(with_reducible first|exact HB.out|apply bal|apply bdN|apply bd1)|exact HB.out)) hb);clear HB;have HB:=n0_;clear n0_;(try clear hb);(try clear hb2);(try clear hk);(try clear hi))));have n0_:=Aside0.mk (bd1 HB.out);clear HB;have HB:=n0_;clear n0_;have p178:0≤(x6_1:Int):=of_decide_eq_true (by first|(with_reducible assumption)|assumption);have q178:x6_1 < (l0.length:Int):=of_decide_eq_true (by first|(with_reducible assumption)|assumption);obtain ⟨ad178,e178,hx178_0,hx178_1,hx178_2⟩:=at_T33 HR0.out x6_1 p178 q178;have hw178_2:=hx178_2;have hw178_1:=hx178_1;have hw178_0:=hx178_0;obtain rfl:ad175=ad178:=(by injection e178);replace hx178_0:=(HB.out.cell (World.block_lt_of_cell? w _ hx178_0)).trans hx178_0;replace hx178_1:=(HB.out.cell (World.block_lt_of_cell? w _ hx178_1)).trans hx178_1;replace hx178_2:=(HB.out.cell (World.block_lt_of_cell? w _ hx178_2)).trans hx178_2;replace p178:=eq_true p178;replace q178:=eq_true q178;have p180:0≤(x6_1:Int):=of_decide_eq_true (by first|(with_reducible assumption)|assumption);have q180:x6_1 < (l0.length:Int):=of_decide_eq_true (by first|(with_reducible assumption)|assumption);obtain ⟨ad180,e180,hx180_0,hx180_1,hx180_2⟩:=at_T33 HR0.out x6_1 p180 q180;have hw180_2:=hx180_2;have hw180_1:=hx180_1;have hw180_0:=hx180_0;obtain rfl:ad175=ad180:=(by injection e180);replace hx180_0:=(HB.out.cell (World.block_lt_of_cell? w _ hx180_0)).trans hx180_0;replace hx180_1:=(HB.out.cell (World.block_lt_of_cell? w _ hx180_1)).trans hx180_1;replace hx180_2:=(HB.out.cell (World.block_lt_of_cell? w _ hx180_2)).trans hx180_2;replace p180:=eq_true p180;replace q180:=eq_true q180;refine start_ (n:=19) (S:=fun w'=>w'.cell? (ad175.add ((x6_1).toNat * 3))=some (.string ((rd_T33 l0 x6_1).f0))∧w'.cell? ⟨(ad175.add ((x6_1).toNat * 3)).block,(ad175.add ((x6_1).toNat * 3)).off + 1,none⟩=some (.int .i64 ((rd_T33 l0 x6_1).f1))∧w'.cell? ⟨(ad175.add ((x6_1).toNat * 3)).block,(ad175.add ((x6_1).toNat * 3)).off + 2,none⟩=some (.string ((rd_T33 l0 x6_1).f2))∧w'.cell? (ad175.add ((x6_1).toNat * 3))=some (.string ((rd_T33 l0 x6_1).f0))∧w'.cell? ⟨(ad175.add ((x6_1).toNat * 3)).block,(ad175.add ((x6_1).toNat * 3)).off + 1,none⟩=some (.int .i64 ((rd_T33 l0 x6_1).f1))∧w'.cell? ⟨(ad175.add ((x6_1).toNat * 3)).block,(ad175.add ((x6_1).toNat * 3)).off + 2,none⟩=some (.string ((rd_T33 l0 x6_1).f2))) (ds:=[]) #[false,false,false,false,false,false,false,false,false,false,false,false,false,false,false,false,false,false,false] (by kernel_rfl) rfl rfl ⟨((HB.out.cell (World.block_lt_of_cell? w _ hw178_0)).trans hw178_0),((HB.out.cell (World.block_lt_of_cell? w _ hw178_1)).trans hw178_1),((HB.out.cell (World.block_lt_of_cell? w _ hw178_2)).trans hw178_2),((HB.out.cell (World.block_lt_of_cell? w _ hw180_0)).trans hw180_0),((HB.out.cell (World.block_lt_of_cell? w _ hw180_1)).trans hw180_1),((HB.out.cell (World.block_lt_of_cell? w _ hw180_2)).trans hw180_2)⟩ (fun hHeld=>?_);refine with_tabW barqueref10_Of.tab9 barqueref10_Of.bits9 (fun HT_ HW_=>?_);generalize w15.drew=w16 at HB hx178_0 hx178_1 hx178_2 hx180_0 hx180_1 hx180_2 hHeld ⊢;refine pure_ (i:=0) (N:=some 33) (v:=?_) (a':=?_) #[true,false,false,false,false,false,false,false,false,false,false,false,false,false,false,false,false,false,false] rfl rfl (any_of HT_.out (by kernel_rfl)) (fun _ _ _ h=>h) (Or.inl ⟨by rfl,?_⟩) ?_ ?_;rotate_left
         ·intro w';go_simp;with_reducible rfl
         rotate_left
         ·simp only [Act.put,List.setIfInBounds_toArray,List.set_cons_zero,List.set_cons_succ,i64_w,i32_w];rfl
         refine pure_ (i:=1) (N:=some 34) (v:=?_) (a':=?_) #[true,true,false,false,false,false,false,false,false,false,false,false,false,false,false,false,false,false,false] rfl rfl (any_of HT_.out (by kernel_rfl)) (fun _ _ _ h=>h) (Or.inl ⟨by rfl,?_⟩) ?_ ?_;rotate_left
         ·intro w';go_simp;with_reducible rfl
         rotate_left
         ·simp only [Act.put,List.setIfInBounds_toArray,List.set_cons_zero,List.set_cons_succ,i64_w,i32_w];rfl
         refine pure_ (i:=2) (N:=some 35) (v:=?_) (a':=?_) #[true,true,true,false,false,false,false,false,false,false,false,false,false,false,false,false,false,false,false] rfl rfl (any_of HT_.out (by kernel_rfl)) (fun _ _ _ h=>h) (Or.inl ⟨by rfl,?_⟩) ?_ ?_;rotate_left
         ·intro w';go_simp;with_reducible rfl
         rotate_left
         ·simp only [Act.put,List.setIfInBounds_toArray,List.set_cons_zero,List.set_cons_succ,i64_w,i32_w];rfl
         refine pure_ (i:=3) (N:=some 36) (v:=?_) (a':=?_) #[true,true,true,true,false,false,false,false,false,false,false,false,false,false,false,false,false,false,false] rfl rfl (any_of HT_.out (by kernel_rfl)) (fun _ _ _ h=>h) (Or.inl ⟨by rfl,?_⟩) ?_ ?_;rotate_left
         ·intro w';go_simp;with_reducible rfl
         rotate_left
         ·simp only [Act.put,List.setIfInBounds_toArray,List.set_cons_zero,List.set_cons_succ,i64_w,i32_w];rfl
         refine pure_ (i:=4) (N:=some 37) (v:=?_) (a':=?_) #[true,true,true,true,true,false,false,false,false,false,false,false,false,false,false,false,false,false,false] rfl rfl (any_of HT_.out (by kernel_rfl)) (fun _ _ _ h=>h) (Or.inl ⟨by rfl,?_⟩) ?_ ?_;rotate_left
         ·intro w';go_simp;with_reducible rfl
         rotate_left
         ·simp only [Act.put,List.setIfInBounds_toArray,List.set_cons_zero,List.set_cons_succ,i64_w,i32_w];rfl
         refine pure_ (i:=5) (N:=some 38) (v:=?_) (a':=?_) #[true,true,true,true,true,true,false,false,false,false,false,false,false,false,false,false,false,false,false] rfl rfl (any_of HT_.out (by kernel_rfl)) (fun _ _ _ h=>h) (Or.inl ⟨by rfl,?_⟩) ?_ ?_;rotate_left
         ·intro w';go_simp;with_reducible rfl
         rotate_left
         ·simp only [Act.put,List.setIfInBounds_toArray,List.set_cons_zero,List.set_cons_succ,i64_w,i32_w];rfl
         refine pure_ (i:=6) (N:=some 39) (v:=?_) (a':=?_) #[true,true,true,true,true,true,true,false,false,false,false,false,false,false,false,false,false,false,false] rfl rfl (any_of HT_.out (by kernel_rfl)) (fun _ _ _ h=>h) (Or.inl ⟨by rfl,?_⟩) ?_ ?_;rotate_left
         ·intro w';go_simp;with_reducible rfl
         rotate_left
         ·simp only [Act.put,List.setIfInBounds_toArray,List.set_cons_zero,List.set_cons_succ,i64_w,i32_w];rfl
         refine pure_ (i:=10) (N:=some 43) (v:=?_) (a':=?_) #[true,true,true,true,true,true,true,false,false,false,true,false,false,false,false,false,false,false,false] rfl rfl (any_of HT_.out (by kernel_rfl)) (fun _ _ _ h=>h) (Or.inl ⟨by rfl,?_⟩) ?_ ?_;rotate_left
         ·intro w';go_simp;with_reducible rfl
         rotate_left
         ·simp only [Act.put,List.setIfInBounds_toArray,List.set_cons_zero,List.set_cons_succ,i64_w,i32_w];rfl
         refine pure_ (i:=11) (N:=some 44) (v:=?_) (a':=?_) #[true,true,true,true,true,true,true,false,false,false,true,true,false,false,false,false,false,false,false] rfl rfl (any_of HT_.out (by kernel_rfl)) (fun _ _ _ h=>h) (Or.inl ⟨by rfl,?_⟩) ?_ ?_;rotate_left
         ·intro w';go_simp;with_reducible rfl
         rotate_left
         ·simp only [Act.put,List.setIfInBounds_toArray,List.set_cons_zero,List.set_cons_succ,i64_w,i32_w];rfl
         refine pure_ (i:=12) (N:=some 45) (v:=?_) (a':=?_) #[true,true,true,true,true,true,true,false,false,false,true,true,true,false,false,false,false,false,false] rfl rfl (any_of HT_.out (by kernel_rfl)) (fun _ _ _ h=>h) (Or.inl ⟨by rfl,?_⟩) ?_ ?_;rotate_left
         ·intro w';go_simp;with_reducible rfl
         rotate_left
         ·simp only [Act.put,List.setIfInBounds_toArray,List.set_cons_zero,List.set_cons_succ,i64_w,i32_w];rfl
         refine pure_ (i:=13) (N:=some 46) (v:=?_) (a':=?_) #[true,true,true,true,true,true,true,false,false,false,true,true,true,true,false,false,false,false,false] rfl rfl (any_of HT_.out (by kernel_rfl)) (fun _ _ _ h=>h) (Or.inl ⟨by rfl,?_⟩) ?_ ?_;rotate_left
         ·intro w';go_simp;with_reducible rfl
         rotate_left
         ·simp only [Act.put,List.setIfInBounds_toArray,List.set_cons_zero,List.set_cons_succ,i64_w,i32_w];rfl
         refine take_ (i:=7) (N:=some 40) (v:=?_) (a':=?_) #[true,true,true,true,true,true,true,true,false,false,true,true,true,true,false,false,false,false,false] rfl rfl (take_ofW HT_.out HW_.out (by kernel_rfl)) (fun _ _ _ h=>h) (Or.inl ⟨by rfl,?_⟩) hHeld ?_ ?_;rotate_left
         ·rintro w' ⟨s0,s1,s2,s3,s4,s5⟩;go_simp;with_reducible rfl
         rotate_left
         ·simp only [Act.put,List.setIfInBounds_toArray,List.set_cons_zero,List.set_cons_succ,i64_w,i32_w];rfl
         refine take_ (i:=14) (N:=some 47) (v:=?_) (a':=?_) #[true,true,true,true,true,true,true,true,false,false,true,true,true,true,true,false,false,false,false] rfl rfl (take_ofW HT_.out HW_.out (by kernel_rfl)) (fun _ _ _ h=>h) (Or.inl ⟨by rfl,?_⟩) hHeld ?_ ?_;rotate_left
         ·rintro w' ⟨s0,s1,s2,s3,s4,s5⟩;go_simp;with_reducible rfl
         rotate_left
         ·simp only [Act.put,List.setIfInBounds_toArray,List.set_cons_zero,List.set_cons_succ,i64_w,i32_w];rfl
         refine pure_ (i:=15) (N:=some 48) (v:=?_) (a':=?_) #[true,true,true,true,true,true,true,true,false,false,true,true,true,true,true,true,false,false,false] rfl rfl (any_of HT_.out (by kernel_rfl)) (fun _ _ _ h=>h) (Or.inl ⟨by rfl,?_⟩) ?_ ?_;rotate_left
         ·intro w';go_simp;with_reducible rfl
         rotate_left
         ·simp only [Act.put,List.setIfInBounds_toArray,List.set_cons_zero,List.set_cons_succ,i64_w,i32_w];rfl
         refine one_ (i:=8) (N:=some 41) #[true,true,true,true,true,true,true,true,true,false,true,true,true,true,true,true,false,false,false] rfl rfl (one_of HT_.out (by kernel_rfl)) (by decide) (fun K hK=>?_);refine goes_ Tryd.func34 (by kernel_rfl) rfl #[.int .i64 ((rd_T33 l0 x6_1).f1)] (by rfl) rfl rfl (by (try simp only [List.map_toArray,List.map_cons,List.map_nil]);first|done|rfl|(simp only [List.length_drop,List.length_take];rfl)) ?_;with_reducible refine (barqueref01_Bytes.calls k1 ((rd_T33 l0 x6_1).f1) t179 _ A11.out).mono ?_;rintro e w17 ⟨rfl,hb⟩;refine ⟨_,rfl,?_⟩;have n0_:=Aside0.mk (below_step (by repeat (first|(with_reducible first|exact HB.out|apply bal|apply bdN|apply bd1)|exact HB.out)) hb);clear HB;have HB:=n0_;clear n0_;(try clear hb);(try clear hb2);(try clear hk);(try clear hi);refine hK.out _ _ ⟨((HB.out.cell (World.block_lt_of_cell? w _ hw178_0)).trans hw178_0),((HB.out.cell (World.block_lt_of_cell? w _ hw178_1)).trans hw178_1),((HB.out.cell (World.block_lt_of_cell? w _ hw178_2)).trans hw178_2),((HB.out.cell (World.block_lt_of_cell? w _ hw180_0)).trans hw180_0),((HB.out.cell (World.block_lt_of_cell? w _ hw180_1)).trans hw180_1),((HB.out.cell (World.block_lt_of_cell? w _ hw180_2)).trans hw180_2)⟩ (fun hHeld=>?_);clear hK K;refine norm_ (a':=?_) ?_ ?_;rotate_left
         ·show Act.put _ (some 41) _=_;simp only [Act.put,List.setIfInBounds_toArray,List.set_cons_zero,List.set_cons_succ,i64_w,i32_w];rfl
         refine pure_ (i:=9) (N:=some 42) (v:=?_) (a':=?_) #[true,true,true,true,true,true,true,true,true,true,true,true,true,true,true,true,false,false,false] rfl rfl (any_of HT_.out (by kernel_rfl)) (fun _ _ _ h=>h) (Or.inl ⟨by rfl,?_⟩) ?_ ?_;rotate_left
         ·intro w';go_simp;with_reducible rfl
         rotate_left
         ·simp only [Act.put,List.setIfInBounds_toArray,List.set_cons_zero,List.set_cons_succ,i64_w,i32_w];rfl
         refine one_ (i:=16) (N:=some 49) #[true,true,true,true,true,true,true,true,true,true,true,true,true,true,true,true,true,false,false] rfl rfl (one_of HT_.out (by kernel_rfl)) (by decide) (fun K hK=>?_);refine goes_ Tryd.func34 (by kernel_rfl) rfl #[.int .i64 (((rd_T33 l0 x6_1).f2).size:Int)] (by rfl) rfl rfl (by (try simp only [List.map_toArray,List.map_cons,List.map_nil]);first|done|rfl|(simp only [List.length_drop,List.length_take];rfl)) ?_;with_reducible refine (barqueref01_Bytes.calls k1 (((rd_T33 l0 x6_1).f2).size:Int) t181 _ A13.out).mono ?_;rintro e w18 ⟨rfl,hb⟩;refine ⟨_,rfl,?_⟩;have n0_:=Aside0.mk (below_step (by repeat (first|(with_reducible first|exact HB.out|apply bal|apply bdN|apply bd1)|exact HB.out)) hb);clear HB;have HB:=n0_;clear n0_;(try clear hb);(try clear hb2);(try clear hk);(try clear hi);refine hK.out _ _ ⟨((HB.out.cell (World.block_lt_of_cell? w _ hw178_0)).trans hw178_0),((HB.out.cell (World.block_lt_of_cell? w _ hw178_1)).trans hw178_1),((HB.out.cell (World.block_lt_of_cell? w _ hw178_2)).trans hw178_2),((HB.out.cell (World.block_lt_of_cell? w _ hw180_0)).trans hw180_0),((HB.out.cell (World.block_lt_of_cell? w _ hw180_1)).trans hw180_1),((HB.out.cell (World.block_lt_of_cell? w _ hw180_2)).trans hw180_2)⟩ (fun hHeld=>?_);clear hK K;refine norm_ (a':=?_) ?_ ?_;rotate_left
         ·show Act.put _ (some 49) _=_;simp only [Act.put,List.setIfInBounds_toArray,List.set_cons_zero,List.set_cons_succ,i64_w,i32_w];rfl
         refine pure_ (i:=17) (N:=some 50) (v:=?_) (a':=?_) #[true,true,true,true,true,true,true,true,true,true,true,true,true,true,true,true,true,true,false] rfl rfl (any_of HT_.out (by kernel_rfl)) (fun _ _ _ h=>h) (Or.inl ⟨by rfl,?_⟩) ?_ ?_;rotate_left
         ·intro w';go_simp;with_reducible rfl
         rotate_left
         ·simp only [Act.put,List.setIfInBounds_toArray,List.set_cons_zero,List.set_cons_succ,i64_w,i32_w];rfl
         refine pure_ (i:=18) (N:=some 5) (v:=?_) (a':=?_) #[true,true,true,true,true,true,true,true,true,true,true,true,true,true,true,true,true,true,true] rfl rfl (any_of HT_.out (by kernel_rfl)) (fun _ _ _ h=>h) (Or.inl ⟨by rfl,?_⟩) ?_ ?_;rotate_left
         ·intro w';go_simp;with_reducible rfl
         rotate_left
         ·simp only [Act.put,List.setIfInBounds_toArray,List.set_cons_zero,List.set_cons_succ,i64_w,i32_w];rfl
         refine done_ (done_of HT_.out (by kernel_rfl)) ?_;(try go_wp2);go_roundg k1
         case measure=>have:=HK1.out;omega
         case rel=>exact ⟨(((x5_1 ++ t176) ++ t179) ++ t181),(wrap64 (x6_1 + 1)),(by first|rfl|(simp;done)|(simp [*];done)),(by first|rfl|(simp;done)|(simp [*];done)),H',⟨by have:=HK1.out;omega⟩,⟨by repeat (first|(with_reducible first|exact HB.out|apply bal|apply bdN|apply bd1)|exact HB.out)⟩⟩
        ·rw [if_neg c14] at H;exact absurd H (by simp)
       ·rw [if_neg c12] at H;exact absurd H (by simp)
      ·rw [if_neg c10] at H;exact absurd H (by simp)
     ·rw [if_neg c8] at H;exact absurd H (by simp)
    ·rw [if_neg c7] at H;have c7b0:decide (x6_1 < (l0.length:Int))=false:=decide_eq_false c7;clear c7;have H':=Aside0.mk H;clear H;go_wp2;go_loopg [5,9] k1 (fun kq v5 v9 w'=>∃ (x5_2:ByteArray) (x9_2:Int),v5=.string x5_2∧v9=.int .i64 x9_2∧Aside0 (barqueref10_Of.l1 kq l0 x5_2 x9_2=some (r1,r2))∧Aside0 (kq≤k1)∧Aside0 (Below w.heap.size w w'))
     case atStart=>exact ⟨(x5_1),(0),(by first|rfl|(simp;done)|(simp [*];done)),(by first|rfl|(simp;done)|(simp [*];done)),H',⟨Nat.le_refl _⟩,⟨by repeat (first|(with_reducible first|exact HB.out|apply bal|apply bdN|apply bd1)|exact HB.out)⟩⟩
     case round =>
      clear H';(try clear c1);(try clear p1);(try clear q1);(try clear hx1);(try clear p2);(try clear c3);(try clear c3b0);(try clear c3b1);(try clear p6);(try clear c7);(try clear c7b0);(try clear c8);(try clear c8b0);(try clear c10);(try clear c10b0);(try clear c10b1);(try clear c10b2);(try clear c12);(try clear c12b0);(try clear c12b1);(try clear c12b2);(try clear c13);(try clear c14);(try clear c14b0);(try clear c14b1);(try clear c14b2);(try clear p17);(try clear q17);(try clear hx17);(try clear p18);(try clear q18);(try clear hx18);(try clear hx175_0);(try clear hx175_1);(try clear hx175_2);(try clear hx178_0);(try clear hx178_1);(try clear hx178_2);(try clear hx180_0);(try clear hx180_1);(try clear hx180_2);(try clear p175);(try clear p178);(try clear p180);(try clear p2);(try clear q175);(try clear q178);(try clear q180);obtain ⟨x5_2,x9_2,rfl,rfl,HA,HK2,HB⟩:=hrel
      cases gk with
      | zero=>exact absurd HA.out (by simp [barqueref10_Of.l1])
      | succ k2 =>
       have H:=HA.out;clear HA;simp only [barqueref10_Of.l1] at H;by_cases c19:x9_2 < (l0.length:Int)
       ·rw [if_pos c19] at H;have c19b0:decide (x9_2 < (l0.length:Int))=true:=decide_eq_true c19;clear c19;by_cases c20:0≤x9_2
        ·rw [if_pos c20] at H;have c20b0:decide (0≤x9_2)=true:=decide_eq_true c20;clear c20;by_cases c21:x5_2.size + ((rd_T33 l0 x9_2).f2).size≤9223372036854775807
         ·rw [if_pos c21] at H;have c21b0:=eq_true c21;have c21b1:decide (x5_2.size + ((rd_T33 l0 x9_2).f2).size≤9223372036854775807)=true:=decide_eq_true c21;(try have c21b2:(9223372036854775807 < x5_2.size + ((rd_T33 l0 x9_2).f2).size)=False:=eq_false (Nat.not_lt.2 c21));(try (have c21b3:=c21b2;simp only [ByteArray.size_append] at c21b3));by_cases c22:((x5_2 ++ ((rd_T33 l0 x9_2).f2)).size:Int) > 524288
          ·rw [if_pos c22] at H;have c22b0:decide (524288 < ((x5_2 ++ ((rd_T33 l0 x9_2).f2)).size:Int))=true:=decide_eq_true c22;(try (have c22b0e:=c22b0;simp only [ByteArray.size_append] at c22b0e));(try (have c22b0f:=c22b0;simp only [ByteArray.size_append,Int.natCast_add] at c22b0f));have c22b1:decide (524288 < (x5_2 ++ ((rd_T33 l0 x9_2).f2)).size)=true:=decide_eq_true (by omega);(try (have c22b1e:=c22b1;simp only [ByteArray.size_append] at c22b1e));(try (have c22b1f:=c22b1;simp only [ByteArray.size_append,Int.natCast_add] at c22b1f));clear c22;simp only [Option.some.injEq,Prod.mk.injEq] at H;obtain ⟨rfl,rfl⟩:=H;have p182:0≤(x9_2:Int):=of_decide_eq_true (by first|(with_reducible assumption)|assumption);have q182:x9_2 < (l0.length:Int):=of_decide_eq_true (by first|(with_reducible assumption)|assumption);obtain ⟨ad182,e182,hx182_0,hx182_1,hx182_2⟩:=at_T33 HR0.out x9_2 p182 q182;cases e182;replace hx182_0:=(HB.out.cell (World.block_lt_of_cell? w _ hx182_0)).trans hx182_0;replace hx182_1:=(HB.out.cell (World.block_lt_of_cell? w _ hx182_1)).trans hx182_1;replace hx182_2:=(HB.out.cell (World.block_lt_of_cell? w _ hx182_2)).trans hx182_2;replace p182:=eq_true p182;replace q182:=eq_true q182;go_wp2;go_ret2;exact ⟨by first|rfl|(simp [errW_none,errW_some] <;> rfl)|(simp [*,errW_none,errW_some] <;> rfl),by repeat (first|(with_reducible first|exact HB.out|apply bal|apply bdN|apply bd1)|exact HB.out)⟩
          ·rw [if_neg c22] at H;have c22b0:decide (524288 < ((x5_2 ++ ((rd_T33 l0 x9_2).f2)).size:Int))=false:=decide_eq_false c22;(try (have c22b0e:=c22b0;simp only [ByteArray.size_append] at c22b0e));(try (have c22b0f:=c22b0;simp only [ByteArray.size_append,Int.natCast_add] at c22b0f));have c22b1:decide (524288 < (x5_2 ++ ((rd_T33 l0 x9_2).f2)).size)=false:=decide_eq_false (by omega);(try (have c22b1e:=c22b1;simp only [ByteArray.size_append] at c22b1e));(try (have c22b1f:=c22b1;simp only [ByteArray.size_append,Int.natCast_add] at c22b1f));clear c22;have H':=Aside0.mk H;clear H;have p182:0≤(x9_2:Int):=of_decide_eq_true (by first|(with_reducible assumption)|assumption);have q182:x9_2 < (l0.length:Int):=of_decide_eq_true (by first|(with_reducible assumption)|assumption);obtain ⟨ad182,e182,hx182_0,hx182_1,hx182_2⟩:=at_T33 HR0.out x9_2 p182 q182;cases e182;replace hx182_0:=(HB.out.cell (World.block_lt_of_cell? w _ hx182_0)).trans hx182_0;replace hx182_1:=(HB.out.cell (World.block_lt_of_cell? w _ hx182_1)).trans hx182_1;replace hx182_2:=(HB.out.cell (World.block_lt_of_cell? w _ hx182_2)).trans hx182_2;replace p182:=eq_true p182;replace q182:=eq_true q182;go_wp2;go_roundg k2
           case measure=>have:=HK1.out;have:=HK2.out;omega
           case rel=>exact ⟨(x5_2 ++ ((rd_T33 l0 x9_2).f2)),(wrap64 (x9_2 + 1)),(by first|rfl|(simp;done)|(simp [*];done)),(by first|rfl|(simp;done)|(simp [*];done)),H',⟨by have:=HK1.out;have:=HK2.out;omega⟩,⟨by repeat (first|(with_reducible first|exact HB.out|apply bal|apply bdN|apply bd1)|exact HB.out)⟩⟩
         ·rw [if_neg c21] at H;exact absurd H (by simp)
        ·rw [if_neg c20] at H;exact absurd H (by simp)
       ·rw [if_neg c19] at H;have c19b0:decide (x9_2 < (l0.length:Int))=false:=decide_eq_false c19;clear c19;simp only [Option.some.injEq,Prod.mk.injEq] at H;obtain ⟨rfl,rfl⟩:=H;go_wp2;go_ret2;exact ⟨by first|rfl|(simp [errW_none,errW_some] <;> rfl)|(simp [*,errW_none,errW_some] <;> rfl),by repeat (first|(with_reducible first|exact HB.out|apply bal|apply bdN|apply bd1)|exact HB.out)⟩
 ·rw [if_neg c3] at H;have c3b0:(t173 == 0)=false:=beq_eq_false_iff_ne.mpr c3;have c3b1:(t173 != 0)=true:=bne_iff_ne.mpr c3;simp only [Option.some.injEq,Prod.mk.injEq] at H;obtain ⟨rfl,rfl⟩:=H;go_enter Tryd.func13,Tryd.ntmps13;go_wp2_with (first|((with_reducible refine gate_callee (f:=33) rfl ?_);refine goesL_ (some 11) rfl rfl Tryd.func33 (by kernel_rfl) rfl #[.slice A0 l0.length c0] rfl (by (try simp only [List.map_toArray,List.map_cons,List.map_nil]);first|done|rfl|(simp only [List.length_drop,List.length_take];rfl)) ?_;(with_reducible refine (barqueref09_Check.calls k _ _ l0 t173 _ ?side1 ?side2 A2.out).mono ?_);(case side1=>repeat (first|exact HR0.out|(with_reducible refine Kd.C_alloc ?_ _)|(with_reducible refine Kd.C_drewN ?_ _)|(with_reducible refine Kd.C_drew ?_)));(case side2=>exact HC0.out);rintro e w23 ⟨rfl,hb⟩;refine ⟨_,rfl,?_⟩;have n0_:=Aside0.mk (below_step (by repeat (first|(with_reducible first|exact HB.out|apply bal|apply bdN|apply bd1)|exact HB.out)) hb);clear HB;have HB:=n0_;clear n0_;(try clear hb);(try clear hb2);(try clear hk);(try clear hi)));go_ret2;exact ⟨by first|rfl|(simp [errW_none,errW_some] <;> rfl)|(simp [*,errW_none,errW_some] <;> rfl),by repeat (first|(with_reducible first|exact HB.out|apply bal|apply bdN|apply bd1)|exact HB.out)⟩
end Go.Proofs.YtmeofdpmddjbgaaDoor.G
end
section
namespace Go.Proofs.YtmeofdpmddjbgaaDoor.Fnv
open Go.RowKit Go.Proofs.YtmeofdpmddjbgaaDoorW.PrintWords Go.Proofs.YtmeofdpmddjbgaaDoorW.PrintLast Go.Proofs.YtmeofdpmddjbgaaDoorW.PrintMore
set_option linter.unusedVariables false
variable {P:Program} {ops:Array Oper} {Q:Exit→Act→World→Prop}
theorem gate_ {rest:List Oper} {o:Oper} {a:Act} {W:World} {s:Tmp} {xs:Array Operand} {ts:Array TypeId} (_ho:o.op=.call { callee:=.value (.tmp s),args:=xs,argTypes:=ts }) (h:wpList P ops Q (o :: rest) a W):wpList P ops Q (o :: rest) a W:=h
theorem goesL_ {rest:List Oper} {oi:Oper} {a:Act} {w:World} (s:Tmp) (N:Option Tmp) (hd:oi.dst=N) (hg:oi.guard=none) {f:FuncId} {fn:Func} {xs:Array Operand} {ts:Array TypeId} (hf:P.funcs[f]?=some fn) (hname:(fn.name == "runtime.NumGoroutine")=false) (hb:fn.body.isSome=true) (args:Array Value)
  (hop:oi.op=.call { callee:=.value (.tmp s),args:=xs,argTypes:=ts }) (hargs:xs.map a.eval=args) (hv:a.eval (.tmp s)=.func (.func f) #[] #[])
  (h:Calls P f args w fun e w'=>∃ v,e=.returned v∧wpList P ops Q rest (a.put N v) w'):wpList P ops Q (oi :: rest) a w:=by
 refine wpList_plain hg fun K hK=>?_
 have he:=enters_ hf hname hb args w
 have hrun:(execOp a.eval oi).run P w=.ok (.enter f args) w:=by
  unfold execOp
  simp [hop,resolve,hv,Deferred.ofValue,invoke,hargs,he]
 unfold Oper.wp
 rw [hrun,Oper.upon_enter]
 refine h.mono fun e w'' hh=>?_
 obtain ⟨v,rfl,hk⟩:=hh
 subst hd
 exact hK _ _ hk
theorem goes_ {oi:Oper} {N:Option Tmp} {a:Act} {w:World} {K:Act→World→Prop} (s:Tmp) {f:FuncId} {fn:Func} {xs:Array Operand} {ts:Array TypeId} (hf:P.funcs[f]?=some fn) (hname:(fn.name == "runtime.NumGoroutine")=false) (hb:fn.body.isSome=true) (args:Array Value)
  (hw:Region.wanted oi (yielded ops a.tmps)=true) (hN:oi.dst=N) (hop:oi.op=.call { callee:=.value (.tmp s),args:=xs,argTypes:=ts }) (hargs:xs.map a.eval=args) (hv:a.eval (.tmp s)=.func (.func f) #[] #[])
  (h:Calls P f args w fun e w'=>∃ v,e=.returned v∧K (a.put N v) w'):if Region.wanted oi (yielded ops a.tmps)=true then Oper.wp P oi a w K Q else K (a.put N undef) w:=by
 refine call_ f args hw hN ?_ h
 have he:=enters_ hf hname hb args w
 unfold execOp
 simp [hop,resolve,hv,Deferred.ofValue,invoke,hargs,he]
end Go.Proofs.YtmeofdpmddjbgaaDoor.Fnv
end
section
namespace Go.Proofs.YtmeofdpmddjbgaaDoor.G
open Go.RowKit Go.Proofs.YtmeofdpmddjbgaaDoorW.PrintWords Go.Proofs.YtmeofdpmddjbgaaDoorW.PrintLast Go.Proofs.YtmeofdpmddjbgaaDoorW.PrintMore
set_option linter.unusedVariables false
set_option linter.unusedSimpArgs false
def headL:List S33→List UInt8
 | []=>[]
 | x :: l=>numB (x.f0.size:Int) ++ x.f0.data.toList ++ numB x.f1 ++ numB (x.f2.size:Int) ++ headL l
def dataL:List S33→List UInt8
 | []=>[]
 | x :: l=>x.f2.data.toList ++ dataL l
def bodyL (l:List S33):List UInt8:=numB (l.length:Int) ++ headL l ++ dataL l
def imageE (l:List S33):ByteArray × Int:=if checkE l=0 then (if 524288 < (bodyL l).length then (⟨#[]⟩,4) else (⟨(bodyL l).toArray⟩,0)) else (⟨#[]⟩,checkE l)
theorem modesE_ok:∀ l:List S33,modesE l=0→∀ x ∈ l,0≤x.f1∧x.f1≤511∧x.f2.size≤65536
 | [],_,x,hx=>by simp at hx
 | y :: l,h,x,hx=>by
  unfold modesE at h
  by_cases h1:y.f1 < 0∨511 < y.f1
  ·rw [if_pos h1] at h;omega
  rw [if_neg h1] at h
  by_cases h2:65536 < y.f2.size
  ·rw [if_pos h2] at h;omega
  rw [if_neg h2] at h
  rcases List.mem_cons.1 hx with e|e
  ·subst e
   refine ⟨?_,?_,?_⟩ <;> omega
  ·exact modesE_ok l h x e
theorem check_ok (l:List S33) (h:checkE l=0):pathsE (l.map (·.f0))=0∧modesE l=0:=by
 unfold checkE at h
 by_cases c:pathsE (l.map (·.f0))=0
 ·rw [if_pos c] at h;exact ⟨c,h⟩
 ·rw [if_neg c] at h;exact absurd h c
theorem check_files (l:List S33) (h:checkE l=0):l.length≤256∧∀ x ∈ l,x.f0.size≤200∧x.f2.size≤65536∧0≤x.f1∧x.f1≤511:=by
 obtain ⟨h1,h2⟩:=check_ok l h
 obtain ⟨s1,s2,s3⟩:=pathsE_sorted _ h1
 rw [List.length_map] at s3
 refine ⟨s3,fun x hx=>?_⟩
 obtain ⟨m1,m2,m3⟩:=modesE_ok l h2 x hx
 exact ⟨pathE_size _ (s2 _ (List.mem_map.2 ⟨x,hx,rfl⟩)),m3,m1,m2⟩
theorem headL_length:∀ l:List S33,(∀ x ∈ l,x.f0.size≤200∧x.f2.size≤65536∧0≤x.f1∧x.f1≤511)→(headL l).length≤227 * l.length
 | [],_=>Nat.le_refl _
 | x :: l,h=>by
  have h1:=(h x List.mem_cons_self).1
  have h2:=headL_length l (fun y hy=>h y (List.mem_cons_of_mem _ hy))
  have n1:=numB_length (x.f0.size:Int)
  have n2:=numB_length x.f1
  have n3:=numB_length (x.f2.size:Int)
  unfold headL
  rw [List.length_append,List.length_append,List.length_append,List.length_append,sz_,List.length_cons]
  omega
theorem imgHead_ev:∀ (l:List S33) (acc:List UInt8),(∀ x ∈ l,x.f0.size≤200∧x.f2.size≤65536∧0≤x.f1∧x.f1≤511)→acc.length + 227 * l.length≤4294967296→Ev (fun k=>imgHead k l acc) (acc ++ headL l)
 | [],acc,_,_=>by
  unfold imgHead headL
  rw [List.append_nil]
  exact Ev.now _
 | x :: l,acc,h,ha=>by
  have h1:=(h x List.mem_cons_self).1
  have n1:=numE_size (x.f0.size:Int)
  have n2:=numE_size x.f1
  have n3:=numE_size (x.f2.size:Int)
  rw [List.length_cons] at ha
  unfold imgHead headL
  refine Ev.bind (num_ev _) (Ev.bind (num_ev _) (Ev.bind (num_ev _) ?_))
  have c:acc.length + (numE (x.f0.size:Int)).1.size + x.f0.size + (numE x.f1).1.size + (numE (x.f2.size:Int)).1.size≤140737488355328:=by omega
  simp only [c,↓reduceIte]
  have ih:=imgHead_ev l (acc ++ (numE (x.f0.size:Int)).1.data.toList ++ x.f0.data.toList ++ (numE x.f1).1.data.toList ++ (numE (x.f2.size:Int)).1.data.toList) (fun y hy=>h y (List.mem_cons_of_mem _ hy)) (by
   rw [List.length_append,List.length_append,List.length_append,List.length_append,sz_,sz_,sz_,sz_]
   omega)
  have e:acc ++ (numB (x.f0.size:Int) ++ x.f0.data.toList ++ numB x.f1 ++ numB (x.f2.size:Int) ++ headL l)=acc ++ (numE (x.f0.size:Int)).1.data.toList ++ x.f0.data.toList ++ (numE x.f1).1.data.toList ++ (numE (x.f2.size:Int)).1.data.toList ++ headL l:=by
   unfold numB
   simp only [List.append_assoc]
  rw [e]
  exact ih
theorem imgData_eq:∀ (l:List S33) (acc:List UInt8),acc.length≤524288→imgData l acc=some (if 524288 < (acc ++ dataL l).length then (⟨#[]⟩,4) else (⟨(acc ++ dataL l).toArray⟩,0))
 | [],acc,h=>by
  unfold imgData dataL
  rw [List.append_nil,if_neg (by omega)]
 | x :: l,acc,h=>by
  unfold imgData dataL
  rw [if_pos h]
  by_cases c:524288 - (acc.length:Int) < (x.f2.size:Int)
  ·rw [if_pos c,if_pos]
   rw [List.length_append,List.length_append,sz_]
   omega
  ·rw [if_neg c,imgData_eq l (acc ++ x.f2.data.toList) (by rw [List.length_append,sz_];omega),List.append_assoc]
theorem imageOf_ev (l:List S33) (hl:l.length≤4294967296):Ev (fun k=>image_Of.f k l) (imageE l):=by
 unfold image_Of.f imageE
 refine Ev.bind (check_ev l hl) ?_
 by_cases h:checkE l=0
 ·simp only [h,↓reduceIte]
  obtain ⟨h1,h2⟩:=check_files l h
  refine Ev.bind (num_ev _) ?_
  have n1:=numE_size (l.length:Int)
  have c:(numE (l.length:Int)).1.size≤140737488355328:=by omega
  simp only [c,↓reduceIte]
  refine Ev.bind (imgHead_ev l _ h2 (by rw [sz_];omega)) ?_
  have hh:=headL_length l h2
  rw [imgData_eq l _ (by rw [List.length_append,sz_];omega)]
  exact Ev.now _
 ·simp only [h,↓reduceIte]
  exact Ev.now _
theorem refOf_l1 (l:List S33) (hl:l.length≤4294967296) (hf:∀ x ∈ l,x.f0.size≤200∧x.f2.size≤65536∧0≤x.f1∧x.f1≤511):∀ (d i:Nat) (out:ByteArray),l.length - i=d→i≤l.length→out.size≤524288 →
  ∃ r:ByteArray × Int,Ev (fun k=>barqueref10_Of.l1 k l out i) r∧r.2=(if 524288 < (out.data.toList ++ dataL (l.drop i)).length then 4 else 0)∧r.1.data.toList=(if 524288 < (out.data.toList ++ dataL (l.drop i)).length then [] else out.data.toList ++ dataL (l.drop i)):=by
 intro d
 induction d with
 | zero =>
  intro i out hd hi ho
  have e:i=l.length:=by omega
  subst e
  have hn:¬ 524288 < (out.data.toList ++ dataL (l.drop l.length)).length:=by
   rw [List.drop_eq_nil_of_le (Nat.le_refl _),dataL,List.append_nil,sz_]
   omega
  rw [if_neg hn,if_neg hn]
  refine ⟨(out,0),?_,rfl,?_⟩
  ·apply Ev.step
   ·intro k;rw [barqueref10_Of.l1]
   have c1:¬ ((l.length:Int) < (l.length:Int)):=by omega
   simp only [c1,↓reduceIte]
   exact Ev.now _
  ·rw [List.drop_eq_nil_of_le (Nat.le_refl _),dataL,List.append_nil]
 | succ d ih =>
  intro i out hd hi ho
  have hlt:i < l.length:=by omega
  obtain ⟨f1,f2,f3,f4⟩:=hf _ (List.getElem_mem hlt)
  have c1:((i:Int) < (l.length:Int)):=by omega
  have c2:(0:Int)≤(i:Int):=by omega
  have c3:out.size + (l[i]'hlt).f2.size≤9223372036854775807:=by omega
  have hw:wrap64 ((i:Int) + 1)=((i + 1:Nat):Int):=by rw [w64_ (by omega) (by omega)];omega
  have hsz:(out ++ (l[i]'hlt).f2).size=out.size + (l[i]'hlt).f2.size:=ByteArray.size_append
  have hdr:out.data.toList ++ dataL (l.drop i)=(out ++ (l[i]'hlt).f2).data.toList ++ dataL (l.drop (i + 1)):=by
   rw [List.drop_eq_getElem_cons hlt,dataL,app_list_,List.append_assoc]
  by_cases c:out.size + (l[i]'hlt).f2.size > 524288
  ·have hn:524288 < (out.data.toList ++ dataL (l.drop i)).length:=by
    rw [hdr,List.length_append,sz_,hsz]
    omega
   rw [if_pos hn,if_pos hn]
   refine ⟨(⟨#[]⟩,4),?_,rfl,rfl⟩
   apply Ev.step
   ·intro k;rw [barqueref10_Of.l1]
   have c4:((out ++ (l[i]'hlt).f2).size:Int) > 524288:=by rw [hsz];omega
   simp only [c1,c2,↓reduceIte,rdF_nat l i hlt,c3,c4]
   exact Ev.now _
  ·obtain ⟨r,r1,r2,r3⟩:=ih (i + 1) (out ++ (l[i]'hlt).f2) (by omega) (by omega) (by rw [hsz];omega)
   rw [← hdr] at r2 r3
   refine ⟨r,?_,r2,r3⟩
   apply Ev.step
   ·intro k;rw [barqueref10_Of.l1]
   have c4:¬ ((out ++ (l[i]'hlt).f2).size:Int) > 524288:=by rw [hsz];omega
   simp only [c1,c2,↓reduceIte,rdF_nat l i hlt,c3,c4,hw]
   exact r1
theorem refOf_l0 (l:List S33) (hl:l.length≤256) (hf:∀ x ∈ l,x.f0.size≤200∧x.f2.size≤65536∧0≤x.f1∧x.f1≤511):∀ (d i:Nat) (out:ByteArray),l.length - i=d→i≤l.length→out.size + 227 * d≤524288 →
  ∃ h:ByteArray,h.data.toList=out.data.toList ++ headL (l.drop i)∧∀ r,Ev (fun k=>barqueref10_Of.l1 k l h 0) r→Ev (fun k=>barqueref10_Of.l0 k l out i) r:=by
 intro d
 induction d with
 | zero =>
  intro i out hd hi ho
  have e:i=l.length:=by omega
  subst e
  refine ⟨out,by rw [List.drop_eq_nil_of_le (Nat.le_refl _),headL,List.append_nil],fun r hr=>?_⟩
  apply Ev.step
  ·intro k;rw [barqueref10_Of.l0]
  have c1:¬ ((l.length:Int) < (l.length:Int)):=by omega
  simp only [c1,↓reduceIte]
  exact hr
 | succ d ih =>
  intro i out hd hi ho
  have hlt:i < l.length:=by omega
  obtain ⟨f1,f2,f3,f4⟩:=hf _ (List.getElem_mem hlt)
  obtain ⟨x,hx⟩:∃ x,l[i]'hlt=x:=⟨_,rfl⟩
  rw [hx] at f1 f2 f3 f4
  have n1:=numE_size (x.f0.size:Int)
  have n2:=numE_size x.f1
  have n3:=numE_size (x.f2.size:Int)
  have c1:((i:Int) < (l.length:Int)):=by omega
  have c2:(0:Int)≤(i:Int):=by omega
  have hd1:l.length - (i + 1)=d:=by omega
  have hi1:i + 1≤l.length:=by omega
  have hx1:x.f0.size≤1048576:=by omega
  obtain ⟨e1,he1⟩:∃ e,numE (x.f0.size:Int)=e:=⟨_,rfl⟩
  obtain ⟨e2,he2⟩:∃ e,numE x.f1=e:=⟨_,rfl⟩
  obtain ⟨e3,he3⟩:∃ e,numE (x.f2.size:Int)=e:=⟨_,rfl⟩
  rw [he1] at n1
  rw [he2] at n2
  rw [he3] at n3
  have hb:(out ++ (e1.1 ++ x.f0) ++ e2.1 ++ e3.1).size + 227 * d≤524288:=by
   simp only [ByteArray.size_append]
   omega
  have c3:out.size + (e1.1 ++ x.f0).size≤9223372036854775807:=by
   simp only [ByteArray.size_append]
   omega
  have c4:(out ++ (e1.1 ++ x.f0)).size + e2.1.size≤9223372036854775807:=by
   simp only [ByteArray.size_append]
   omega
  have c5:(out ++ (e1.1 ++ x.f0) ++ e2.1).size + e3.1.size≤9223372036854775807:=by
   simp only [ByteArray.size_append]
   omega
  obtain ⟨h,h1,h2⟩:=ih (i + 1) (out ++ (e1.1 ++ x.f0) ++ e2.1 ++ e3.1) hd1 hi1 hb
  refine ⟨h,?_,fun r hr=>?_⟩
  ·rw [h1,List.drop_eq_getElem_cons hlt,hx,headL]
   simp only [app_list_,numB,List.append_assoc,he1,he2,he3]
  ·have hw:wrap64 ((i:Int) + 1)=((i + 1:Nat):Int):=by rw [w64_ (by omega) (by omega)];omega
   have t1:=reftext_ev x.f0 hx1
   have t2:=refbytes_ev x.f1
   have t3:=refbytes_ev (x.f2.size:Int)
   rw [he1] at t1
   rw [he2] at t2
   rw [he3] at t3
   apply Ev.step
   ·intro k;rw [barqueref10_Of.l0]
   simp only [c1,c2,↓reduceIte,rdF_nat l i hlt,hx,hw]
   refine Ev.bind t1 ?_
   simp only [c3,↓reduceIte]
   refine Ev.bind t2 ?_
   simp only [c4,↓reduceIte]
   refine Ev.bind t3 ?_
   simp only [c5,↓reduceIte]
   exact h2 r hr
theorem ba_of_ (b:ByteArray) (l:List UInt8) (h:b.data.toList=l):b=⟨l.toArray⟩:=by
 subst h
 cases b
 rfl
theorem refOf_ev (l:List S33) (hl:l.length≤4294967296):Ev (fun k=>barqueref10_Of.f k l) (imageE l):=by
 unfold barqueref10_Of.f imageE
 refine Ev.bind (refcheck_ev l hl) ?_
 by_cases h:checkE l=0
 ·simp only [h,↓reduceIte]
  obtain ⟨h1,h2⟩:=check_files l h
  have n1:=numE_size (l.length:Int)
  refine Ev.bind (refbytes_ev _) ?_
  obtain ⟨hd,e1,e2⟩:=refOf_l0 l h1 h2 l.length 0 (numE (l.length:Int)).1 (by omega) (by omega) (by omega)
  have hh:=headL_length l h2
  have hsz:hd.size≤524288:=by
   have:=congrArg List.length e1
   rw [sz_,List.drop_zero,List.length_append,sz_] at this
   omega
  obtain ⟨r,r1,r2,r3⟩:=refOf_l1 l hl h2 l.length 0 hd (by omega) (by omega) hsz
  have eb:hd.data.toList ++ dataL (l.drop 0)=bodyL l:=by
   rw [e1,List.drop_zero]
   unfold bodyL numB
   rfl
  rw [eb] at r2 r3
  have er:r=(if 524288 < (bodyL l).length then (⟨#[]⟩,4) else (⟨(bodyL l).toArray⟩,0)):=by
   obtain ⟨ra,rb⟩:=r
   simp only at r2 r3
   by_cases c:524288 < (bodyL l).length
   ·rw [if_pos c] at r2 r3 ⊢
    rw [r2,ba_of_ ra [] r3]
   ·rw [if_neg c] at r2 r3 ⊢
    rw [r2,ba_of_ ra _ r3]
  rw [← er]
  have:=e2 r r1
  simpa using this
 ·simp only [h,↓reduceIte]
  exact Ev.now _
end Go.Proofs.YtmeofdpmddjbgaaDoor.G
end
section
namespace Go.Proofs.YtmeofdpmddjbgaaDoor.G
open Go.RowKit Go.Proofs.YtmeofdpmddjbgaaDoorW.PrintWords Go.Proofs.YtmeofdpmddjbgaaDoorW.PrintLast Go.Proofs.YtmeofdpmddjbgaaDoorW.PrintMore
set_option linter.unusedVariables false
set_option linter.unusedSimpArgs false

def numGo (s:ByteArray):Nat→Nat→Nat→Nat→Int × Nat × Int
 | 0,_,n,at_=>((n:Int),at_,0)
 | d + 1,i,n,at_=>if at_ < s.size then
   (if (i=8∧63 < (bt s (at_:Int)).toNat)∨(0 < i∧(bt s (at_:Int)).toNat=0) then (0,at_ + 1,5)
    else if (bt s (at_:Int)).toNat < 128 then (((n + (bt s (at_:Int)).toNat % 128 * 128 ^ i:Nat):Int),at_ + 1,0)
    else numGo s d (i + 1) (n + (bt s (at_:Int)).toNat % 128 * 128 ^ i) (at_ + 1))
  else (0,at_,3)
def numS (s:ByteArray) (at_:Nat) (e:Int):Int × Nat × Int:=if e=0 then numGo s 9 0 0 at_ else (0,at_,e)
def countS (s:ByteArray) (at_:Nat) (e most:Int):Int × Nat × Int:=if (numS s at_ e).2.2=0∧most < (numS s at_ e).1 then (0,(numS s at_ e).2.1,4) else numS s at_ e
def rawS (s:ByteArray) (at_:Nat) (e n:Int):ByteArray × Nat × Int:=if e=0 then (if n < 0 then (⟨#[]⟩,at_,1) else if (s.size:Int) - at_ < n then (⟨#[]⟩,at_,3) else (s.extract at_ (at_ + n.toNat),at_ + n.toNat,0)) else (⟨#[]⟩,at_,e)
def textS (s:ByteArray) (at_:Nat) (e most:Int):ByteArray × Nat × Int:=rawS s (countS s at_ e most).2.1 (countS s at_ e most).2.2 (countS s at_ e most).1
theorem numGo_at (s:ByteArray):∀ (d i n at_:Nat),at_≤s.size→at_≤(numGo s d i n at_).2.1∧(numGo s d i n at_).2.1≤s.size
 | 0,i,n,at_,h=>⟨Nat.le_refl _,h⟩
 | d + 1,i,n,at_,h=>by
  unfold numGo
  by_cases c:at_ < s.size
  ·rw [if_pos c]
   split
   ·exact ⟨Nat.le_succ _,c⟩
   ·split
    ·exact ⟨Nat.le_succ _,c⟩
    ·have:=numGo_at s d (i + 1) (n + (bt s (at_:Int)).toNat % 128 * 128 ^ i) (at_ + 1) c
     exact ⟨Nat.le_trans (Nat.le_succ _) this.1,this.2⟩
  ·rw [if_neg c]
   exact ⟨Nat.le_refl _,h⟩
theorem numS_at (s:ByteArray) (at_:Nat) (e:Int) (h:at_≤s.size):at_≤(numS s at_ e).2.1∧(numS s at_ e).2.1≤s.size:=by
 unfold numS
 split
 ·exact numGo_at s 9 0 0 at_ h
 ·exact ⟨Nat.le_refl _,h⟩
theorem countS_at (s:ByteArray) (at_:Nat) (e most:Int) (h:at_≤s.size):at_≤(countS s at_ e most).2.1∧(countS s at_ e most).2.1≤s.size:=by
 have:=numS_at s at_ e h
 unfold countS
 split
 ·exact this
 ·exact this
theorem rawS_at (s:ByteArray) (at_:Nat) (e n:Int) (h:at_≤s.size):at_≤(rawS s at_ e n).2.1∧(rawS s at_ e n).2.1≤s.size:=by
 unfold rawS
 split
 ·split
  ·exact ⟨Nat.le_refl _,h⟩
  ·split
   ·exact ⟨Nat.le_refl _,h⟩
   ·constructor
    ·show at_≤at_ + n.toNat
     omega
    ·show at_ + n.toNat≤s.size
     omega
 ·exact ⟨Nat.le_refl _,h⟩
theorem textS_at (s:ByteArray) (at_:Nat) (e most:Int) (h:at_≤s.size):at_≤(textS s at_ e most).2.1∧(textS s at_ e most).2.1≤s.size:=by
 have h1:=countS_at s at_ e most h
 have h2:=rawS_at s (countS s at_ e most).2.1 (countS s at_ e most).2.2 (countS s at_ e most).1 h1.2
 exact ⟨Nat.le_trans h1.1 h2.1,h2.2⟩

theorem numGo_range (s:ByteArray):∀ (d i n at_:Nat),9 - i=d→i≤8→n < 128 ^ i→0≤(numGo s d i n at_).1∧(numGo s d i n at_).1≤4611686018427387903
 | 0,i,n,at_,hd,hi,hn=>by omega
 | d + 1,i,n,at_,hd,hi,hn=>by
  unfold numGo
  by_cases c:at_ < s.size
  ·rw [if_pos c]
   obtain ⟨b,hb⟩:∃ b,(bt s (at_:Int)).toNat=b:=⟨_,rfl⟩
   rw [hb]
   by_cases c1:(i=8∧63 < b)∨(0 < i∧b=0)
   ·rw [if_pos c1];exact ⟨Int.le_refl 0,Int.le_of_lt (by decide:(0:Int) < 4611686018427387903)⟩
   ·rw [if_neg c1]
    obtain ⟨P,hP⟩:∃ P,128 ^ i=P:=⟨_,rfl⟩
    have hx:b % 128 * P≤127 * P:=Nat.mul_le_mul_right _ (by omega)
    have hP8:P≤72057594037927936:=by rw [← hP];exact Nat.le_trans (Nat.pow_le_pow_right (by decide) hi) (by decide)
    have hn':n < P:=by rw [← hP];exact hn
    by_cases c2:b < 128
    ·rw [if_pos c2,hP]
     refine ⟨Int.natCast_nonneg _,?_⟩
     by_cases e8:i=8
     ·have hb63:b % 128≤63:=by omega
      have h63:b % 128 * P≤63 * P:=Nat.mul_le_mul_right _ hb63
      show ((n + b % 128 * P:Nat):Int)≤_
      omega
     ·have hP7:P≤562949953421312:=by rw [← hP];exact Nat.le_trans (Nat.pow_le_pow_right (by decide) (by omega:i≤7)) (by decide)
      show ((n + b % 128 * P:Nat):Int)≤_
      omega
    ·rw [if_neg c2]
     have hb8:i ≠ 8:=fun e=>c2 (by omega)
     refine numGo_range s d (i + 1) _ (at_ + 1) (by omega) (by omega) ?_
     rw [Nat.pow_succ,hP]
     omega
  ·rw [if_neg c];exact ⟨Int.le_refl 0,Int.le_of_lt (by decide:(0:Int) < 4611686018427387903)⟩
theorem numS_range (s:ByteArray) (at_:Nat) (e:Int):0≤(numS s at_ e).1∧(numS s at_ e).1≤4611686018427387903:=by
 unfold numS
 split
 ·exact numGo_range s 9 0 0 at_ rfl (by decide) (by decide)
 ·exact ⟨Int.le_refl 0,Int.le_of_lt (by decide:(0:Int) < 4611686018427387903)⟩
theorem countS_range (s:ByteArray) (at_:Nat) (e most:Int):0≤(countS s at_ e most).1∧(countS s at_ e most).1≤4611686018427387903:=by
 have:=numS_range s at_ e
 unfold countS
 split
 ·exact ⟨Int.le_refl 0,Int.le_of_lt (by decide:(0:Int) < 4611686018427387903)⟩
 ·exact this
theorem or_shl_ (j:Nat) (P n x:Nat) (hP:2 ^ j=P) (hj:j≤56) (hn:n < P) (hx:x * P < 9223372036854775808):Go.bits .or .i64 (n:Int) (shl .i64 (x:Int) (j:Int))=((n + x * P:Nat):Int):=by
 have hb:min ((j:Int)).toNat (IntKind.i64).bits=j:=by
  have:(IntKind.i64).bits=64:=rfl
  rw [this,Int.toNat_natCast]
  omega
 have hs:shl .i64 (x:Int) (j:Int)=((x * P:Nat):Int):=by
  unfold shl
  rw [hb]
  have e:(x:Int) * 2 ^ j=((x * P:Nat):Int):=by
   rw [← hP]
   push_cast
   rfl
  rw [e]
  exact wraps63_ _ (Int.natCast_nonneg _) (by omega)
 rw [hs]
 have hc:Go.bits .or .i64 (n:Int) ((x * P:Nat):Int)=Go.bits .or .i64 ((x * P:Nat):Int) (n:Int):=by simp only [Go.bits,BitVec.or_comm]
 have hPI:(2:Int) ^ j=(P:Int):=by rw [← hP];push_cast;rfl
 have hm:((x * P:Nat):Int) % 2 ^ j=0:=by
  rw [hPI]
  push_cast
  exact Int.mul_emod_left _ _
 have hPle:P≤72057594037927936:=by rw [← hP];exact Nat.le_trans (Nat.pow_le_pow_right (by decide) hj) (by decide)
 rw [hc,Go.bits_join .i64 63 (by decide) wraps63_ j _ _ (Int.natCast_nonneg _) hm (by omega) (Int.natCast_nonneg _) (by rw [hPI];omega) (by omega)]
 push_cast
 omega
theorem pow7_ (i:Nat):2 ^ (7 * i)=128 ^ i:=by rw [Nat.pow_mul]
end Go.Proofs.YtmeofdpmddjbgaaDoor.G
end
section
namespace Go.Proofs.YtmeofdpmddjbgaaDoor.G
open Go.RowKit Go.Proofs.YtmeofdpmddjbgaaDoorW.PrintWords Go.Proofs.YtmeofdpmddjbgaaDoorW.PrintLast Go.Proofs.YtmeofdpmddjbgaaDoorW.PrintMore
attribute [local go_sem] max2_int min2_int max_two min_two max_three min_three max_four min_four   
set_option linter.unusedVariables false
set_option linter.unusedSimpArgs false

def IsS102 (w0 W:World) (g:Nat) (f0:ByteArray) (f1:Int) (f2:Int):Prop:=W.heap[g]?=some (.cells #[.string f0,.int .i64 f1,.int .i64 f2] 102 (0,0))∧w0.heap.size≤g
theorem IsS102.grown {w0 W:World} {g:Nat} {f0:ByteArray} {f1:Int} {f2:Int} {W1:World} {row:Option Nat} (h:IsS102 w0 W g f0 f1 f2) (hw:W.grownBy W1 row) (hne:some g ≠ row):IsS102 w0 W1 g f0 f1 f2:=by
 obtain ⟨hb,hg⟩:=h
 exact ⟨blk_grown hb hw hne,hg⟩
theorem IsS102.kept {w0 W:World} {g:Nat} {f0:ByteArray} {f1:Int} {f2:Int} {W1:World} {S:Nat→Prop} (h:IsS102 w0 W g f0 f1 f2) (hk:Kept W W1 S) (hne:¬ S g):IsS102 w0 W1 g f0 f1 f2:=by
 obtain ⟨hb,hg⟩:=h
 exact ⟨blk_kept hb hk hne,hg⟩
theorem IsS102.below {w0 W:World} {g:Nat} {f0:ByteArray} {f1:Int} {f2:Int} {W1:World} (h:IsS102 w0 W g f0 f1 f2) (hw:Below W.heap.size W W1):IsS102 w0 W1 g f0 f1 f2:=h.grown (grown_of_below hw none) (by simp)
theorem IsS102.alloc {w0 W:World} {g:Nat} {f0:ByteArray} {f1:Int} {f2:Int} (h:IsS102 w0 W g f0 f1 f2) (o:Obj):IsS102 w0 (W.alloc o) g f0 f1 f2:=h.below (bal (Below.refl _ _) o)
theorem IsS102.drewN {w0 W:World} {g:Nat} {f0:ByteArray} {f1:Int} {f2:Int} (h:IsS102 w0 W g f0 f1 f2) (m:Nat):IsS102 w0 (W.drewN m) g f0 f1 f2:=h
theorem IsS102.drew {w0 W:World} {g:Nat} {f0:ByteArray} {f1:Int} {f2:Int} (h:IsS102 w0 W g f0 f1 f2):IsS102 w0 W.drew g f0 f1 f2:=h
theorem IsS102.at_ {w0 W:World} {g:Nat} {f0:ByteArray} {f1:Int} {f2:Int} {w':World} {m:Nat} (hq:W.drewN m=w') (h:IsS102 w0 W g f0 f1 f2):IsS102 w0 w' g f0 f1 f2:=by subst hq;exact IsS102.drewN h m
theorem IsS102.apart {w0 W:World} {g:Nat} {f0:ByteArray} {f1:Int} {f2:Int} {α:Type} {d:Kd α} {e:Nat} {base:Nat} {ok:Nat→Prop} {v:Value} {xs:List α} (h:IsS102 w0 W g f0 f1 f2) (ho:d.R e W base ok v xs) (ht:∀ q,q ∈ e :: d.E→q ≠ 102):d.R e W base (fun k=>ok k∧k ≠ g) v xs:=by
 obtain ⟨hb,hg⟩:=h
 exact Kd.R_types ho hb ht
theorem IsS102.own_ne {w0 W:World} {g:Nat} {f0:ByteArray} {f1:Int} {f2:Int} {α:Type} {d:Kd α} {e:Nat} {base:Nat} {ok:Nat→Prop} {v:Value} {xs:List α} (h:IsS102 w0 W g f0 f1 f2) (ho:d.R e W base ok v xs) (ht:e ≠ 102):some g ≠ v.ownBlock:=by
 obtain ⟨hb,hg⟩:=h
 exact Kd.R_ne ho hb ht
theorem IsS102.lt {w0 W:World} {g:Nat} {f0:ByteArray} {f1:Int} {f2:Int} (h:IsS102 w0 W g f0 f1 f2):g < W.heap.size:=by
 obtain ⟨hb,hg⟩:=h
 exact blk_lt hb
theorem IsS102.ge {w0 W:World} {g:Nat} {f0:ByteArray} {f1:Int} {f2:Int} (h:IsS102 w0 W g f0 f1 f2):w0.heap.size≤g:=by
 obtain ⟨hb,hg⟩:=h
 exact hg
theorem IsS102.ne_blk {w0 W:World} {g:Nat} {f0:ByteArray} {f1:Int} {f2:Int} {a:Nat} {cs:Array Value} {t:TypeId} {fr:Nat × Nat} (h:IsS102 w0 W g f0 f1 f2) (hb2:W.heap[a]?=some (.cells cs t fr)) (ht:t ≠ 102):g ≠ a:=by
 obtain ⟨hb,hg⟩:=h
 rintro rfl
 rw [hb] at hb2
 injection hb2 with hb2
 injection hb2 with _ ht2
 exact ht ht2.symm
theorem IsS102.far {w0 W:World} {g:Nat} {f0:ByteArray} {f1:Int} {f2:Int} {p:Addr} (h:IsS102 w0 W g f0 f1 f2) (hne:g ≠ p.block) (u:Value):IsS102 w0 (W.setCell p u) g f0 f1 f2:=by
 obtain ⟨hb,hg⟩:=h
 exact ⟨blk_far hb hne u,hg⟩
theorem cellS102_0 {W:World} {g:Nat} {f0:ByteArray} {f1:Int} {f2:Int} (h:W.heap[g]?=some (.cells #[.string f0,.int .i64 f1,.int .i64 f2] 102 (0,0))):W.cell? ⟨g,0,none⟩=some (.string f0):=(blk_cell h 0).trans rfl
theorem IsS102.set_0 {w0 W:World} {g:Nat} {f0:ByteArray} {f1:Int} {f2:Int} (h:IsS102 w0 W g f0 f1 f2) (x:ByteArray):IsS102 w0 (W.setCell ⟨g,0,none⟩ (.string x)) g x f1 f2:=by
 obtain ⟨hb,hg⟩:=h
 exact ⟨by simpa using blk_set hb 0 (.string x),hg⟩
theorem cellS102_1 {W:World} {g:Nat} {f0:ByteArray} {f1:Int} {f2:Int} (h:W.heap[g]?=some (.cells #[.string f0,.int .i64 f1,.int .i64 f2] 102 (0,0))):W.cell? ⟨g,1,none⟩=some (.int .i64 f1):=(blk_cell h 1).trans rfl
theorem IsS102.set_1 {w0 W:World} {g:Nat} {f0:ByteArray} {f1:Int} {f2:Int} (h:IsS102 w0 W g f0 f1 f2) (x:Int):IsS102 w0 (W.setCell ⟨g,1,none⟩ (.int .i64 x)) g f0 x f2:=by
 obtain ⟨hb,hg⟩:=h
 exact ⟨by simpa using blk_set hb 1 (.int .i64 x),hg⟩
theorem cellS102_2 {W:World} {g:Nat} {f0:ByteArray} {f1:Int} {f2:Int} (h:W.heap[g]?=some (.cells #[.string f0,.int .i64 f1,.int .i64 f2] 102 (0,0))):W.cell? ⟨g,2,none⟩=some (.int .i64 f2):=(blk_cell h 2).trans rfl
theorem IsS102.set_2 {w0 W:World} {g:Nat} {f0:ByteArray} {f1:Int} {f2:Int} (h:IsS102 w0 W g f0 f1 f2) (x:Int):IsS102 w0 (W.setCell ⟨g,2,none⟩ (.int .i64 x)) g f0 f1 x:=by
 obtain ⟨hb,hg⟩:=h
 exact ⟨by simpa using blk_set hb 2 (.int .i64 x),hg⟩
def code_Read.f (a0:ByteArray):Option (ByteArray × Int × Int):=some (a0,0,0)
set_option maxHeartbeats 8000000 in
set_option maxRecDepth 100000 in
theorem code_Read.calls (a0:ByteArray) (r1:ByteArray) (r2:Int) (r3:Int) (w0 w:World) (hB:Below w0.heap.size w0 w) (h:code_Read.f a0=some (r1,r2,r3)) :
  Calls Tryd.prog 54 #[.string a0] w fun e w'=>∃ g_:Nat,e=.returned (.pointer (some ⟨g_,0,none⟩))∧IsS102 w0 w' g_ r1 r2 r3∧Below w0.heap.size w0 w'∧Below w.heap.size w w':=by
 have hu102:=Tryd.underlying102;have HBW:=Aside0.mk (Below.refl w.heap.size w);have HW0:=Aside0.mk hB.size;have HB:=Aside0.mk hB;clear hB;have H:(some (a0,0,0))=some (r1,r2,r3):=h;clear h;simp only [Option.some.injEq,Prod.mk.injEq] at H;obtain ⟨rfl,rfl,rfl⟩:=H;go_enter Tryd.func54,Tryd.ntmps54;go_wp2_with (first|((with_reducible refine gate_dst (N:=5) rfl ?_);refine box_event ?hg (N:=5) ?hd (cs:=#[.string a0,.int .i64 0,.int .i64 0]) (t:=102) ?hr ?_;(case hd=>rfl);(case hg=>rfl);(case hr=>first|(go_simp;done)|(go_simp;rfl));intro gb225 hg w2 hbox hb;have n0_:=Aside0.mk (below_step HBW.out hb);have n1_:=Aside0.mk (below_step (by repeat (first|(with_reducible first|exact HB.out|apply bal|apply bdN|apply bd1)|exact HB.out)) hb);have n2_:=Aside0.mk (hbox);have n3_:=Aside0.mk ((by rw [hg];exact (below_size (by repeat (first|(with_reducible first|exact HBW.out|apply bal|apply bdN|apply bd1)|exact HBW.out))):w.heap.size≤gb225));have n4_:=Aside0.mk ((Nat.le_trans HW0.out (by rw [hg];exact (below_size (by repeat (first|(with_reducible first|exact HBW.out|apply bal|apply bdN|apply bd1)|exact HBW.out))):w.heap.size≤gb225):w0.heap.size≤gb225));clear HBW;clear HB;have HBW:=n0_;have HB:=n1_;have BK225:=n2_;have GW225:=n3_;have GE225:=n4_;clear n0_ n1_ n2_ n3_ n4_;clear hb hbox hg));go_ret;exact ⟨_,rfl,(show IsS102 w0 _ gb225 a0 0 0 from ⟨by (with_reducible repeat (first|refine blk_drewN ?_ _|refine blk_drew ?_|refine blk_alloc ?_ _));exact BK225.out,GE225.out⟩),by repeat (first|(with_reducible first|exact HB.out|apply bal|apply bdN|apply bd1|refine below_set ?_ GE225.out)|exact HB.out),by repeat (first|(with_reducible first|exact HBW.out|apply bal|apply bdN|apply bd1|refine below_set ?_ GW225.out)|exact HBW.out)⟩
end Go.Proofs.YtmeofdpmddjbgaaDoor.G
end
section
namespace Go.Proofs.YtmeofdpmddjbgaaDoor.G
open Go.RowKit Go.Proofs.YtmeofdpmddjbgaaDoorW.PrintWords Go.Proofs.YtmeofdpmddjbgaaDoorW.PrintLast Go.Proofs.YtmeofdpmddjbgaaDoorW.PrintMore
attribute [local go_sem] max2_int min2_int max_two min_two max_three min_three max_four min_four   
set_option linter.unusedVariables false
set_option linter.unusedSimpArgs false
def code_Reader_off.f (s0_0:ByteArray) (s0_1:Int) (s0_2:Int):Option (Bool × ByteArray × Int × Int):=some ((s0_2 != 0),s0_0,s0_1,s0_2)
set_option maxHeartbeats 8000000 in
set_option maxRecDepth 100000 in
theorem code_Reader_off.calls (g:Nat) (s0_0:ByteArray) (s0_1:Int) (s0_2:Int) (r1:Bool) (r2:ByteArray) (r3:Int) (r4:Int) (w0 w:World) (hI:IsS102 w0 w g s0_0 s0_1 s0_2) (hB:Below w0.heap.size w0 w) (h:code_Reader_off.f s0_0 s0_1 s0_2=some (r1,r2,r3,r4)) :
  Calls Tryd.prog 74 #[.pointer (some ⟨g,0,none⟩)] w fun e w'=>e=.returned (.bool r1)∧IsS102 w0 w' g r2 r3 r4∧Below w0.heap.size w0 w'∧KeepBut w w' g none:=by
 have HI0:=Aside0.mk hI;have HK:=Aside0.mk (KeepBut.refl w g none);have HL:=Aside0.mk hB.size;clear hI;have HW0:=Aside0.mk hB.size;have HB:=Aside0.mk hB;clear hB;have H:(some ((s0_2 != 0),s0_0,s0_1,s0_2))=some (r1,r2,r3,r4):=h;clear h;simp only [Option.some.injEq,Prod.mk.injEq] at H;obtain ⟨rfl,rfl,rfl,rfl⟩:=H;obtain ⟨HGz2,hgz2⟩:=HI0.out;have hcz2_0:=cellS102_0 HGz2;have hcz2_1:=cellS102_1 HGz2;have hcz2_2:=cellS102_2 HGz2;have hfz2_0:=blk_frozen HGz2 0;have hfz2_1:=blk_frozen HGz2 1;have hfz2_2:=blk_frozen HGz2 2;clear HGz2 hgz2;go_enter Tryd.func74,Tryd.ntmps74;go_wp2;go_ret;exact ⟨by first|rfl|(simp [errW_none,errW_some] <;> rfl)|(simp [*,errW_none,errW_some] <;> rfl),by repeat (first|(with_reducible first|exact HI0.out|apply IsS102.alloc|apply IsS102.drewN|apply IsS102.drew|apply IsS102.set_0|apply IsS102.set_1|apply IsS102.set_2)|exact HI0.out),by repeat (first|(with_reducible first|exact HB.out|apply bal|apply bdN|apply bd1|refine below_set ?_ (IsS102.ge HI0.out))|exact HB.out),by repeat (first|(with_reducible first|exact HK.out|apply KeepBut.set_|apply keep_drewN|apply keep_drew|apply keep_alloc)|exact HK.out)⟩
def code_Reader_fail.f (s0_0:ByteArray) (s0_1:Int) (s0_2:Int) (a1:Int):Option (ByteArray × Int × Int):=(code_Reader_off.f s0_0 s0_1 s0_2).bind fun bt226=>(if bt226.1=true then (some (bt226.2.1,bt226.2.2.1,bt226.2.2.2)) else (some (bt226.2.1,bt226.2.2.1,a1)))
set_option maxHeartbeats 8000000 in
set_option maxRecDepth 100000 in
theorem code_Reader_fail.calls (g:Nat) (s0_0:ByteArray) (s0_1:Int) (s0_2:Int) (a1:Int) (r1:ByteArray) (r2:Int) (r3:Int) (w0 w:World) (hI:IsS102 w0 w g s0_0 s0_1 s0_2) (hB:Below w0.heap.size w0 w) (h:code_Reader_fail.f s0_0 s0_1 s0_2 a1=some (r1,r2,r3)) :
  Calls Tryd.prog 75 #[.pointer (some ⟨g,0,none⟩),.int .i64 a1] w fun e w'=>e=.returned (.tuple #[])∧IsS102 w0 w' g r1 r2 r3∧Below w0.heap.size w0 w'∧KeepBut w w' g none:=by
 have HI0:=Aside0.mk hI;have HK:=Aside0.mk (KeepBut.refl w g none);have HL:=Aside0.mk hB.size;clear hI;have HW0:=Aside0.mk hB.size;have HB:=Aside0.mk hB;clear hB;have H:((code_Reader_off.f s0_0 s0_1 s0_2).bind fun bt226=>(if bt226.1=true then (some (bt226.2.1,bt226.2.2.1,bt226.2.2.2)) else (some (bt226.2.1,bt226.2.2.1,a1))))=some (r1,r2,r3):=h;clear h;replace H:=Option.bind_eq_some_iff.mp H;obtain ⟨⟨t226,t227,t228,t229⟩,A30,H⟩:=H;replace H:(if t226=true then (some (t227,t228,t229)) else (some (t227,t228,a1)))=some (r1,r2,r3):=H;have A3:=Aside0.mk A30;clear A30;by_cases c4:t226=true
 ·subst c4;(have H1:(some (t227,t228,t229))=some (r1,r2,r3):=by rw [if_pos rfl] at H;exact H);clear H;have H:=H1;clear H1;simp only [Option.some.injEq,Prod.mk.injEq] at H;obtain ⟨rfl,rfl,rfl⟩:=H;go_enter Tryd.func75,Tryd.ntmps75;go_wp2_with (first|((with_reducible refine gate_callee (f:=74) rfl ?_);refine goesL_ (some 5) rfl rfl Tryd.func74 (by kernel_rfl) rfl #[.pointer (some ⟨g,0,none⟩)] rfl (by (try simp only [List.map_toArray,List.map_cons,List.map_nil]);first|done|rfl|(simp only [List.length_drop,List.length_take];rfl)) ?_;(with_reducible refine (code_Reader_off.calls g s0_0 s0_1 s0_2 true t227 t228 t229 w0 _ ?side1 ?side2 A3.out).mono ?_);(case side1=>repeat (first|(with_reducible first|exact HI0.out|apply IsS102.alloc|apply IsS102.drewN|apply IsS102.drew|apply IsS102.set_0|apply IsS102.set_1|apply IsS102.set_2)|exact HI0.out));(case side2=>repeat (first|(with_reducible first|exact HB.out|apply bal|apply bdN|apply bd1|refine below_set ?_ (IsS102.ge HI0.out))|exact HB.out));rintro e w5 ⟨rfl,hi,hb,hk⟩;refine ⟨_,rfl,?_⟩;have n0_:=Aside0.mk (KeepBut.trans (by repeat (first|(with_reducible first|exact HK.out|apply KeepBut.set_|apply keep_drewN|apply keep_drew|apply keep_alloc)|exact HK.out)) hk (.inl rfl));have n1_:=Aside0.mk (hb);have n2_:=Aside0.mk (hi);clear HK;clear HB;clear HI0;have HK:=n0_;have HB:=n1_;have HI0:=n2_;clear n0_ n1_ n2_;(try clear hb);(try clear hb2);(try clear hk);(try clear hi)));(first|go_end0|((try simp only [Exit.inBlock,Exit.then]);refine bodyPost_ret (results_none rfl _ _ _) rfl ?_));exact ⟨by first|rfl|(simp [errW_none,errW_some] <;> rfl)|(simp [*,errW_none,errW_some] <;> rfl),by repeat (first|(with_reducible first|exact HI0.out|apply IsS102.alloc|apply IsS102.drewN|apply IsS102.drew|apply IsS102.set_0|apply IsS102.set_1|apply IsS102.set_2)|exact HI0.out),by repeat (first|(with_reducible first|exact HB.out|apply bal|apply bdN|apply bd1|refine below_set ?_ (IsS102.ge HI0.out))|exact HB.out),by repeat (first|(with_reducible first|exact HK.out|apply KeepBut.set_|apply keep_drewN|apply keep_drew|apply keep_alloc)|exact HK.out)⟩
 ·replace c4:=Bool.eq_false_iff.mpr c4;subst c4;(have H1:(some (t227,t228,a1))=some (r1,r2,r3):=by rw [if_neg (show ¬ (false=true) by decide)] at H;exact H);clear H;have H:=H1;clear H1;simp only [Option.some.injEq,Prod.mk.injEq] at H;obtain ⟨rfl,rfl,rfl⟩:=H;go_enter Tryd.func75,Tryd.ntmps75;go_wp2_with (first|((with_reducible refine gate_callee (f:=74) rfl ?_);refine goesL_ (some 5) rfl rfl Tryd.func74 (by kernel_rfl) rfl #[.pointer (some ⟨g,0,none⟩)] rfl (by (try simp only [List.map_toArray,List.map_cons,List.map_nil]);first|done|rfl|(simp only [List.length_drop,List.length_take];rfl)) ?_;(with_reducible refine (code_Reader_off.calls g s0_0 s0_1 s0_2 false t227 t228 t229 w0 _ ?side1 ?side2 A3.out).mono ?_);(case side1=>repeat (first|(with_reducible first|exact HI0.out|apply IsS102.alloc|apply IsS102.drewN|apply IsS102.drew|apply IsS102.set_0|apply IsS102.set_1|apply IsS102.set_2)|exact HI0.out));(case side2=>repeat (first|(with_reducible first|exact HB.out|apply bal|apply bdN|apply bd1|refine below_set ?_ (IsS102.ge HI0.out))|exact HB.out));rintro e w6 ⟨rfl,hi,hb,hk⟩;refine ⟨_,rfl,?_⟩;have n0_:=Aside0.mk (KeepBut.trans (by repeat (first|(with_reducible first|exact HK.out|apply KeepBut.set_|apply keep_drewN|apply keep_drew|apply keep_alloc)|exact HK.out)) hk (.inl rfl));have n1_:=Aside0.mk (hb);have n2_:=Aside0.mk (hi);clear HK;clear HB;clear HI0;have HK:=n0_;have HB:=n1_;have HI0:=n2_;clear n0_ n1_ n2_;(try clear hb);(try clear hb2);(try clear hk);(try clear hi);obtain ⟨HGz7,hgz7⟩:=HI0.out;have hcz7_0:=cellS102_0 HGz7;have hcz7_1:=cellS102_1 HGz7;have hcz7_2:=cellS102_2 HGz7;have hfz7_0:=blk_frozen HGz7 0;have hfz7_1:=blk_frozen HGz7 1;have hfz7_2:=blk_frozen HGz7 2;clear HGz7 hgz7));(first|go_end0|((try simp only [Exit.inBlock,Exit.then]);refine bodyPost_ret (results_none rfl _ _ _) rfl ?_));exact ⟨by first|rfl|(simp [errW_none,errW_some] <;> rfl)|(simp [*,errW_none,errW_some] <;> rfl),by repeat (first|(with_reducible first|exact HI0.out|apply IsS102.alloc|apply IsS102.drewN|apply IsS102.drew|apply IsS102.set_0|apply IsS102.set_1|apply IsS102.set_2)|exact HI0.out),by repeat (first|(with_reducible first|exact HB.out|apply bal|apply bdN|apply bd1|refine below_set ?_ (IsS102.ge HI0.out))|exact HB.out),by repeat (first|(with_reducible first|exact HK.out|apply KeepBut.set_|apply keep_drewN|apply keep_drew|apply keep_alloc)|exact HK.out)⟩
def code_Reader_Byte.f (s0_0:ByteArray) (s0_1:Int) (s0_2:Int):Option (Int × ByteArray × Int × Int):=(code_Reader_off.f s0_0 s0_1 s0_2).bind fun bt230=>(if bt230.1=true then (some (0,bt230.2.1,bt230.2.2.1,bt230.2.2.2)) else (if bt230.2.2.1=(bt230.2.1.size:Int) then ((code_Reader_fail.f bt230.2.1 bt230.2.2.1 bt230.2.2.2 3).bind fun bt234=>(some (0,bt234.1,bt234.2.1,bt234.2.2))) else (if 0≤(wrap64 ((wrap64 (bt230.2.2.1 + 1)) - 1)) then (if (wrap64 ((wrap64 (bt230.2.2.1 + 1)) - 1)) < (bt230.2.1.size:Int) then (some (wrap64 (bt bt230.2.1 (wrap64 ((wrap64 (bt230.2.2.1 + 1)) - 1))),bt230.2.1,wrap64 (bt230.2.2.1 + 1),bt230.2.2.2)) else (none)) else (none))))
set_option maxHeartbeats 8000000 in
set_option maxRecDepth 100000 in
theorem code_Reader_Byte.calls (g:Nat) (s0_0:ByteArray) (s0_1:Int) (s0_2:Int) (r1:Int) (r2:ByteArray) (r3:Int) (r4:Int) (w0 w:World) (hI:IsS102 w0 w g s0_0 s0_1 s0_2) (hB:Below w0.heap.size w0 w) (h:code_Reader_Byte.f s0_0 s0_1 s0_2=some (r1,r2,r3,r4)) :
  Calls Tryd.prog 77 #[.pointer (some ⟨g,0,none⟩)] w fun e w'=>e=.returned (.int .i64 r1)∧IsS102 w0 w' g r2 r3 r4∧Below w0.heap.size w0 w'∧KeepBut w w' g none:=by
 have HI0:=Aside0.mk hI;have HK:=Aside0.mk (KeepBut.refl w g none);have HL:=Aside0.mk hB.size;clear hI;have HW0:=Aside0.mk hB.size;have HB:=Aside0.mk hB;clear hB;have H:((code_Reader_off.f s0_0 s0_1 s0_2).bind fun bt230=>(if bt230.1=true then (some (0,bt230.2.1,bt230.2.2.1,bt230.2.2.2)) else (if bt230.2.2.1=(bt230.2.1.size:Int) then ((code_Reader_fail.f bt230.2.1 bt230.2.2.1 bt230.2.2.2 3).bind fun bt234=>(some (0,bt234.1,bt234.2.1,bt234.2.2))) else (if 0≤(wrap64 ((wrap64 (bt230.2.2.1 + 1)) - 1)) then (if (wrap64 ((wrap64 (bt230.2.2.1 + 1)) - 1)) < (bt230.2.1.size:Int) then (some (wrap64 (bt bt230.2.1 (wrap64 ((wrap64 (bt230.2.2.1 + 1)) - 1))),bt230.2.1,wrap64 (bt230.2.2.1 + 1),bt230.2.2.2)) else (none)) else (none)))))=some (r1,r2,r3,r4):=h;clear h;replace H:=Option.bind_eq_some_iff.mp H;obtain ⟨⟨t230,t231,t232,t233⟩,A20,H⟩:=H;replace H:(if t230=true then (some (0,t231,t232,t233)) else (if t232=(t231.size:Int) then ((code_Reader_fail.f t231 t232 t233 3).bind fun bt234=>(some (0,bt234.1,bt234.2.1,bt234.2.2))) else (if 0≤(wrap64 ((wrap64 (t232 + 1)) - 1)) then (if (wrap64 ((wrap64 (t232 + 1)) - 1)) < (t231.size:Int) then (some (wrap64 (bt t231 (wrap64 ((wrap64 (t232 + 1)) - 1))),t231,wrap64 (t232 + 1),t233)) else (none)) else (none))))=some (r1,r2,r3,r4):=H;have A2:=Aside0.mk A20;clear A20;by_cases c3:t230=true
 ·subst c3;(have H1:(some (0,t231,t232,t233))=some (r1,r2,r3,r4):=by rw [if_pos rfl] at H;exact H);clear H;have H:=H1;clear H1;simp only [Option.some.injEq,Prod.mk.injEq] at H;obtain ⟨rfl,rfl,rfl,rfl⟩:=H;go_enter Tryd.func77,Tryd.ntmps77;go_wp2_with (first|(go_at_call 74;(with_reducible refine (code_Reader_off.calls g s0_0 s0_1 s0_2 true t231 t232 t233 w0 _ ?side1 ?side2 A2.out).mono ?_);(case side1=>repeat (first|(with_reducible first|exact HI0.out|apply IsS102.alloc|apply IsS102.drewN|apply IsS102.drew|apply IsS102.set_0|apply IsS102.set_1|apply IsS102.set_2)|exact HI0.out));(case side2=>repeat (first|(with_reducible first|exact HB.out|apply bal|apply bdN|apply bd1|refine below_set ?_ (IsS102.ge HI0.out))|exact HB.out));rintro e w4 ⟨rfl,hi,hb,hk⟩;have n0_:=Aside0.mk (KeepBut.trans (by repeat (first|(with_reducible first|exact HK.out|apply KeepBut.set_|apply keep_drewN|apply keep_drew|apply keep_alloc)|exact HK.out)) hk (.inl rfl));have n1_:=Aside0.mk (hb);have n2_:=Aside0.mk (hi);clear HK;clear HB;clear HI0;have HK:=n0_;have HB:=n1_;have HI0:=n2_;clear n0_ n1_ n2_;(try clear hb);(try clear hb2);(try clear hk);(try clear hi)));(repeat (go_quiet (first|(go_at_call 74;(with_reducible refine (code_Reader_off.calls g s0_0 s0_1 s0_2 true t231 t232 t233 w0 _ ?side1 ?side2 A2.out).mono ?_);(case side1=>repeat (first|(with_reducible first|exact HI0.out|apply IsS102.alloc|apply IsS102.drewN|apply IsS102.drew|apply IsS102.set_0|apply IsS102.set_1|apply IsS102.set_2)|exact HI0.out));(case side2=>repeat (first|(with_reducible first|exact HB.out|apply bal|apply bdN|apply bd1|refine below_set ?_ (IsS102.ge HI0.out))|exact HB.out));rintro e w4 ⟨rfl,hi,hb,hk⟩;have n0_:=Aside0.mk (KeepBut.trans (by repeat (first|(with_reducible first|exact HK.out|apply KeepBut.set_|apply keep_drewN|apply keep_drew|apply keep_alloc)|exact HK.out)) hk (.inl rfl));have n1_:=Aside0.mk (hb);have n2_:=Aside0.mk (hi);clear HK;clear HB;clear HI0;have HK:=n0_;have HB:=n1_;have HI0:=n2_;clear n0_ n1_ n2_;(try clear hb);(try clear hb2);(try clear hk);(try clear hi)));try go_wp2_with (first|(go_at_call 74;(with_reducible refine (code_Reader_off.calls g s0_0 s0_1 s0_2 true t231 t232 t233 w0 _ ?side1 ?side2 A2.out).mono ?_);(case side1=>repeat (first|(with_reducible first|exact HI0.out|apply IsS102.alloc|apply IsS102.drewN|apply IsS102.drew|apply IsS102.set_0|apply IsS102.set_1|apply IsS102.set_2)|exact HI0.out));(case side2=>repeat (first|(with_reducible first|exact HB.out|apply bal|apply bdN|apply bd1|refine below_set ?_ (IsS102.ge HI0.out))|exact HB.out));rintro e w4 ⟨rfl,hi,hb,hk⟩;have n0_:=Aside0.mk (KeepBut.trans (by repeat (first|(with_reducible first|exact HK.out|apply KeepBut.set_|apply keep_drewN|apply keep_drew|apply keep_alloc)|exact HK.out)) hk (.inl rfl));have n1_:=Aside0.mk (hb);have n2_:=Aside0.mk (hi);clear HK;clear HB;clear HI0;have HK:=n0_;have HB:=n1_;have HI0:=n2_;clear n0_ n1_ n2_;(try clear hb);(try clear hb2);(try clear hk);(try clear hi)))));go_ret;exact ⟨by first|rfl|(simp [errW_none,errW_some] <;> rfl)|(simp [*,errW_none,errW_some] <;> rfl),by repeat (first|(with_reducible first|exact HI0.out|apply IsS102.alloc|apply IsS102.drewN|apply IsS102.drew|apply IsS102.set_0|apply IsS102.set_1|apply IsS102.set_2)|exact HI0.out),by repeat (first|(with_reducible first|exact HB.out|apply bal|apply bdN|apply bd1|refine below_set ?_ (IsS102.ge HI0.out))|exact HB.out),by repeat (first|(with_reducible first|exact HK.out|apply KeepBut.set_|apply keep_drewN|apply keep_drew|apply keep_alloc)|exact HK.out)⟩
 ·replace c3:=Bool.eq_false_iff.mpr c3;subst c3;(have H1:(if t232=(t231.size:Int) then ((code_Reader_fail.f t231 t232 t233 3).bind fun bt234=>(some (0,bt234.1,bt234.2.1,bt234.2.2))) else (if 0≤(wrap64 ((wrap64 (t232 + 1)) - 1)) then (if (wrap64 ((wrap64 (t232 + 1)) - 1)) < (t231.size:Int) then (some (wrap64 (bt t231 (wrap64 ((wrap64 (t232 + 1)) - 1))),t231,wrap64 (t232 + 1),t233)) else (none)) else (none)))=some (r1,r2,r3,r4):=by rw [if_neg (show ¬ (false=true) by decide)] at H;exact H);clear H;have H:=H1;clear H1;by_cases c5:t232=(t231.size:Int)
  ·rw [if_pos c5] at H;have c5b0:(t232 == (t231.size:Int))=true:=beq_iff_eq.mpr c5;have c5b1:(t232 != (t231.size:Int))=false:=bne_eq_false_iff_eq.mpr c5;clear c5;replace H:=Option.bind_eq_some_iff.mp H;obtain ⟨⟨t234,t235,t236⟩,A60,H⟩:=H;replace H:(some (0,t234,t235,t236))=some (r1,r2,r3,r4):=H;have A6:=Aside0.mk A60;clear A60;simp only [Option.some.injEq,Prod.mk.injEq] at H;obtain ⟨rfl,rfl,rfl,rfl⟩:=H;go_enter Tryd.func77,Tryd.ntmps77;go_wp2_with (first|(go_at_call 74;(with_reducible refine (code_Reader_off.calls g s0_0 s0_1 s0_2 false t231 t232 t233 w0 _ ?side1 ?side2 A2.out).mono ?_);(case side1=>repeat (first|(with_reducible first|exact HI0.out|apply IsS102.alloc|apply IsS102.drewN|apply IsS102.drew|apply IsS102.set_0|apply IsS102.set_1|apply IsS102.set_2)|exact HI0.out));(case side2=>repeat (first|(with_reducible first|exact HB.out|apply bal|apply bdN|apply bd1|refine below_set ?_ (IsS102.ge HI0.out))|exact HB.out));rintro e w7 ⟨rfl,hi,hb,hk⟩;have n0_:=Aside0.mk (KeepBut.trans (by repeat (first|(with_reducible first|exact HK.out|apply KeepBut.set_|apply keep_drewN|apply keep_drew|apply keep_alloc)|exact HK.out)) hk (.inl rfl));have n1_:=Aside0.mk (hb);have n2_:=Aside0.mk (hi);clear HK;clear HB;clear HI0;have HK:=n0_;have HB:=n1_;have HI0:=n2_;clear n0_ n1_ n2_;(try clear hb);(try clear hb2);(try clear hk);(try clear hi);obtain ⟨HGz8,hgz8⟩:=HI0.out;have hcz8_0:=cellS102_0 HGz8;have hcz8_1:=cellS102_1 HGz8;have hcz8_2:=cellS102_2 HGz8;have hfz8_0:=blk_frozen HGz8 0;have hfz8_1:=blk_frozen HGz8 1;have hfz8_2:=blk_frozen HGz8 2;clear HGz8 hgz8)|(go_at_call 75;(with_reducible refine (code_Reader_fail.calls g t231 t232 t233 3 t234 t235 t236 w0 _ ?side1 ?side2 A6.out).mono ?_);(case side1=>repeat (first|(with_reducible first|exact HI0.out|apply IsS102.alloc|apply IsS102.drewN|apply IsS102.drew|apply IsS102.set_0|apply IsS102.set_1|apply IsS102.set_2)|exact HI0.out));(case side2=>repeat (first|(with_reducible first|exact HB.out|apply bal|apply bdN|apply bd1|refine below_set ?_ (IsS102.ge HI0.out))|exact HB.out));rintro e w9 ⟨rfl,hi,hb,hk⟩;have n0_:=Aside0.mk (KeepBut.trans (by repeat (first|(with_reducible first|exact HK.out|apply KeepBut.set_|apply keep_drewN|apply keep_drew|apply keep_alloc)|exact HK.out)) hk (.inl rfl));have n1_:=Aside0.mk (hb);have n2_:=Aside0.mk (hi);clear HK;clear HB;clear HI0;have HK:=n0_;have HB:=n1_;have HI0:=n2_;clear n0_ n1_ n2_;(try clear hb);(try clear hb2);(try clear hk);(try clear hi)));(repeat (go_quiet (first|(go_at_call 74;(with_reducible refine (code_Reader_off.calls g s0_0 s0_1 s0_2 false t231 t232 t233 w0 _ ?side1 ?side2 A2.out).mono ?_);(case side1=>repeat (first|(with_reducible first|exact HI0.out|apply IsS102.alloc|apply IsS102.drewN|apply IsS102.drew|apply IsS102.set_0|apply IsS102.set_1|apply IsS102.set_2)|exact HI0.out));(case side2=>repeat (first|(with_reducible first|exact HB.out|apply bal|apply bdN|apply bd1|refine below_set ?_ (IsS102.ge HI0.out))|exact HB.out));rintro e w7 ⟨rfl,hi,hb,hk⟩;have n0_:=Aside0.mk (KeepBut.trans (by repeat (first|(with_reducible first|exact HK.out|apply KeepBut.set_|apply keep_drewN|apply keep_drew|apply keep_alloc)|exact HK.out)) hk (.inl rfl));have n1_:=Aside0.mk (hb);have n2_:=Aside0.mk (hi);clear HK;clear HB;clear HI0;have HK:=n0_;have HB:=n1_;have HI0:=n2_;clear n0_ n1_ n2_;(try clear hb);(try clear hb2);(try clear hk);(try clear hi);obtain ⟨HGz8,hgz8⟩:=HI0.out;have hcz8_0:=cellS102_0 HGz8;have hcz8_1:=cellS102_1 HGz8;have hcz8_2:=cellS102_2 HGz8;have hfz8_0:=blk_frozen HGz8 0;have hfz8_1:=blk_frozen HGz8 1;have hfz8_2:=blk_frozen HGz8 2;clear HGz8 hgz8)|(go_at_call 75;(with_reducible refine (code_Reader_fail.calls g t231 t232 t233 3 t234 t235 t236 w0 _ ?side1 ?side2 A6.out).mono ?_);(case side1=>repeat (first|(with_reducible first|exact HI0.out|apply IsS102.alloc|apply IsS102.drewN|apply IsS102.drew|apply IsS102.set_0|apply IsS102.set_1|apply IsS102.set_2)|exact HI0.out));(case side2=>repeat (first|(with_reducible first|exact HB.out|apply bal|apply bdN|apply bd1|refine below_set ?_ (IsS102.ge HI0.out))|exact HB.out));rintro e w9 ⟨rfl,hi,hb,hk⟩;have n0_:=Aside0.mk (KeepBut.trans (by repeat (first|(with_reducible first|exact HK.out|apply KeepBut.set_|apply keep_drewN|apply keep_drew|apply keep_alloc)|exact HK.out)) hk (.inl rfl));have n1_:=Aside0.mk (hb);have n2_:=Aside0.mk (hi);clear HK;clear HB;clear HI0;have HK:=n0_;have HB:=n1_;have HI0:=n2_;clear n0_ n1_ n2_;(try clear hb);(try clear hb2);(try clear hk);(try clear hi)));try go_wp2_with (first|(go_at_call 74;(with_reducible refine (code_Reader_off.calls g s0_0 s0_1 s0_2 false t231 t232 t233 w0 _ ?side1 ?side2 A2.out).mono ?_);(case side1=>repeat (first|(with_reducible first|exact HI0.out|apply IsS102.alloc|apply IsS102.drewN|apply IsS102.drew|apply IsS102.set_0|apply IsS102.set_1|apply IsS102.set_2)|exact HI0.out));(case side2=>repeat (first|(with_reducible first|exact HB.out|apply bal|apply bdN|apply bd1|refine below_set ?_ (IsS102.ge HI0.out))|exact HB.out));rintro e w7 ⟨rfl,hi,hb,hk⟩;have n0_:=Aside0.mk (KeepBut.trans (by repeat (first|(with_reducible first|exact HK.out|apply KeepBut.set_|apply keep_drewN|apply keep_drew|apply keep_alloc)|exact HK.out)) hk (.inl rfl));have n1_:=Aside0.mk (hb);have n2_:=Aside0.mk (hi);clear HK;clear HB;clear HI0;have HK:=n0_;have HB:=n1_;have HI0:=n2_;clear n0_ n1_ n2_;(try clear hb);(try clear hb2);(try clear hk);(try clear hi);obtain ⟨HGz8,hgz8⟩:=HI0.out;have hcz8_0:=cellS102_0 HGz8;have hcz8_1:=cellS102_1 HGz8;have hcz8_2:=cellS102_2 HGz8;have hfz8_0:=blk_frozen HGz8 0;have hfz8_1:=blk_frozen HGz8 1;have hfz8_2:=blk_frozen HGz8 2;clear HGz8 hgz8)|(go_at_call 75;(with_reducible refine (code_Reader_fail.calls g t231 t232 t233 3 t234 t235 t236 w0 _ ?side1 ?side2 A6.out).mono ?_);(case side1=>repeat (first|(with_reducible first|exact HI0.out|apply IsS102.alloc|apply IsS102.drewN|apply IsS102.drew|apply IsS102.set_0|apply IsS102.set_1|apply IsS102.set_2)|exact HI0.out));(case side2=>repeat (first|(with_reducible first|exact HB.out|apply bal|apply bdN|apply bd1|refine below_set ?_ (IsS102.ge HI0.out))|exact HB.out));rintro e w9 ⟨rfl,hi,hb,hk⟩;have n0_:=Aside0.mk (KeepBut.trans (by repeat (first|(with_reducible first|exact HK.out|apply KeepBut.set_|apply keep_drewN|apply keep_drew|apply keep_alloc)|exact HK.out)) hk (.inl rfl));have n1_:=Aside0.mk (hb);have n2_:=Aside0.mk (hi);clear HK;clear HB;clear HI0;have HK:=n0_;have HB:=n1_;have HI0:=n2_;clear n0_ n1_ n2_;(try clear hb);(try clear hb2);(try clear hk);(try clear hi)))));go_ret;exact ⟨by first|rfl|(simp [errW_none,errW_some] <;> rfl)|(simp [*,errW_none,errW_some] <;> rfl),by repeat (first|(with_reducible first|exact HI0.out|apply IsS102.alloc|apply IsS102.drewN|apply IsS102.drew|apply IsS102.set_0|apply IsS102.set_1|apply IsS102.set_2)|exact HI0.out),by repeat (first|(with_reducible first|exact HB.out|apply bal|apply bdN|apply bd1|refine below_set ?_ (IsS102.ge HI0.out))|exact HB.out),by repeat (first|(with_reducible first|exact HK.out|apply KeepBut.set_|apply keep_drewN|apply keep_drew|apply keep_alloc)|exact HK.out)⟩
  ·rw [if_neg c5] at H;have c5b0:(t232 == (t231.size:Int))=false:=beq_eq_false_iff_ne.mpr c5;have c5b1:(t232 != (t231.size:Int))=true:=bne_iff_ne.mpr c5;obtain ⟨ji10,hji10⟩:∃ j_:Int,(wrap64 ((wrap64 (t232 + 1)) - 1))=j_:=⟨_,rfl⟩;(replace H:(if 0≤(ji10) then (if (ji10) < (t231.size:Int) then (some (wrap64 (bt t231 (ji10)),t231,wrap64 (t232 + 1),t233)) else (none)) else (none))=some (r1,r2,r3,r4):=by first|(rw [hji10] at H;exact H)|(simp only [hji10] at H ⊢;exact H));(try rw [hji10] at A2);have hji10w:(IntKind.i64.wrap ((wrap64 (t232 + 1)) - 1))=ji10:=(i64_w _).trans hji10;by_cases c11:0≤(ji10)
   ·rw [if_pos c11] at H;have c11b0:decide (0≤(ji10))=true:=decide_eq_true c11;clear c11;by_cases c12:(ji10) < (t231.size:Int)
    ·rw [if_pos c12] at H;have c12b0:decide ((ji10) < (t231.size:Int))=true:=decide_eq_true c12;clear c12;simp only [Option.some.injEq,Prod.mk.injEq] at H;obtain ⟨rfl,rfl,rfl,rfl⟩:=H;go_enter Tryd.func77,Tryd.ntmps77;go_wp2_with (first|(go_at_call 74;(with_reducible refine (code_Reader_off.calls g s0_0 s0_1 s0_2 false t231 t232 t233 w0 _ ?side1 ?side2 A2.out).mono ?_);(case side1=>repeat (first|(with_reducible first|exact HI0.out|apply IsS102.alloc|apply IsS102.drewN|apply IsS102.drew|apply IsS102.set_0|apply IsS102.set_1|apply IsS102.set_2)|exact HI0.out));(case side2=>repeat (first|(with_reducible first|exact HB.out|apply bal|apply bdN|apply bd1|refine below_set ?_ (IsS102.ge HI0.out))|exact HB.out));rintro e w14 ⟨rfl,hi,hb,hk⟩;have n0_:=Aside0.mk (KeepBut.trans (by repeat (first|(with_reducible first|exact HK.out|apply KeepBut.set_|apply keep_drewN|apply keep_drew|apply keep_alloc)|exact HK.out)) hk (.inl rfl));have n1_:=Aside0.mk (hb);have n2_:=Aside0.mk (hi);clear HK;clear HB;clear HI0;have HK:=n0_;have HB:=n1_;have HI0:=n2_;clear n0_ n1_ n2_;(try clear hb);(try clear hb2);(try clear hk);(try clear hi);obtain ⟨HGz15,hgz15⟩:=HI0.out;have hcz15_0:=cellS102_0 HGz15;have hcz15_1:=cellS102_1 HGz15;have hcz15_2:=cellS102_2 HGz15;have hfz15_0:=blk_frozen HGz15 0;have hfz15_1:=blk_frozen HGz15 1;have hfz15_2:=blk_frozen HGz15 2;clear HGz15 hgz15;have p13:0≤((ji10):Int):=of_decide_eq_true (by first|(with_reducible assumption)|assumption);have q13:(ji10) < (t231.size:Int):=of_decide_eq_true (by first|(with_reducible assumption)|assumption);have hx13:=bt_at t231 (ji10);replace p13:=eq_true p13;replace q13:=eq_true q13));(repeat (go_quiet (first|(go_at_call 74;(with_reducible refine (code_Reader_off.calls g s0_0 s0_1 s0_2 false t231 t232 t233 w0 _ ?side1 ?side2 A2.out).mono ?_);(case side1=>repeat (first|(with_reducible first|exact HI0.out|apply IsS102.alloc|apply IsS102.drewN|apply IsS102.drew|apply IsS102.set_0|apply IsS102.set_1|apply IsS102.set_2)|exact HI0.out));(case side2=>repeat (first|(with_reducible first|exact HB.out|apply bal|apply bdN|apply bd1|refine below_set ?_ (IsS102.ge HI0.out))|exact HB.out));rintro e w14 ⟨rfl,hi,hb,hk⟩;have n0_:=Aside0.mk (KeepBut.trans (by repeat (first|(with_reducible first|exact HK.out|apply KeepBut.set_|apply keep_drewN|apply keep_drew|apply keep_alloc)|exact HK.out)) hk (.inl rfl));have n1_:=Aside0.mk (hb);have n2_:=Aside0.mk (hi);clear HK;clear HB;clear HI0;have HK:=n0_;have HB:=n1_;have HI0:=n2_;clear n0_ n1_ n2_;(try clear hb);(try clear hb2);(try clear hk);(try clear hi);obtain ⟨HGz15,hgz15⟩:=HI0.out;have hcz15_0:=cellS102_0 HGz15;have hcz15_1:=cellS102_1 HGz15;have hcz15_2:=cellS102_2 HGz15;have hfz15_0:=blk_frozen HGz15 0;have hfz15_1:=blk_frozen HGz15 1;have hfz15_2:=blk_frozen HGz15 2;clear HGz15 hgz15;have p13:0≤((ji10):Int):=of_decide_eq_true (by first|(with_reducible assumption)|assumption);have q13:(ji10) < (t231.size:Int):=of_decide_eq_true (by first|(with_reducible assumption)|assumption);have hx13:=bt_at t231 (ji10);replace p13:=eq_true p13;replace q13:=eq_true q13));try go_wp2_with (first|(go_at_call 74;(with_reducible refine (code_Reader_off.calls g s0_0 s0_1 s0_2 false t231 t232 t233 w0 _ ?side1 ?side2 A2.out).mono ?_);(case side1=>repeat (first|(with_reducible first|exact HI0.out|apply IsS102.alloc|apply IsS102.drewN|apply IsS102.drew|apply IsS102.set_0|apply IsS102.set_1|apply IsS102.set_2)|exact HI0.out));(case side2=>repeat (first|(with_reducible first|exact HB.out|apply bal|apply bdN|apply bd1|refine below_set ?_ (IsS102.ge HI0.out))|exact HB.out));rintro e w14 ⟨rfl,hi,hb,hk⟩;have n0_:=Aside0.mk (KeepBut.trans (by repeat (first|(with_reducible first|exact HK.out|apply KeepBut.set_|apply keep_drewN|apply keep_drew|apply keep_alloc)|exact HK.out)) hk (.inl rfl));have n1_:=Aside0.mk (hb);have n2_:=Aside0.mk (hi);clear HK;clear HB;clear HI0;have HK:=n0_;have HB:=n1_;have HI0:=n2_;clear n0_ n1_ n2_;(try clear hb);(try clear hb2);(try clear hk);(try clear hi);obtain ⟨HGz15,hgz15⟩:=HI0.out;have hcz15_0:=cellS102_0 HGz15;have hcz15_1:=cellS102_1 HGz15;have hcz15_2:=cellS102_2 HGz15;have hfz15_0:=blk_frozen HGz15 0;have hfz15_1:=blk_frozen HGz15 1;have hfz15_2:=blk_frozen HGz15 2;clear HGz15 hgz15;have p13:0≤((ji10):Int):=of_decide_eq_true (by first|(with_reducible assumption)|assumption);have q13:(ji10) < (t231.size:Int):=of_decide_eq_true (by first|(with_reducible assumption)|assumption);have hx13:=bt_at t231 (ji10);replace p13:=eq_true p13;replace q13:=eq_true q13))));go_ret;exact ⟨by first|rfl|(simp [errW_none,errW_some] <;> rfl)|(simp only [← hji10];first|rfl|(simp [errW_none,errW_some] <;> rfl))|(simp [*,errW_none,errW_some] <;> rfl),by repeat (first|(with_reducible first|exact HI0.out|apply IsS102.alloc|apply IsS102.drewN|apply IsS102.drew|apply IsS102.set_0|apply IsS102.set_1|apply IsS102.set_2)|exact HI0.out),by repeat (first|(with_reducible first|exact HB.out|apply bal|apply bdN|apply bd1|refine below_set ?_ (IsS102.ge HI0.out))|exact HB.out),by repeat (first|(with_reducible first|exact HK.out|apply KeepBut.set_|apply keep_drewN|apply keep_drew|apply keep_alloc)|exact HK.out)⟩
    ·rw [if_neg c12] at H;exact absurd H (by simp)
   ·rw [if_neg c11] at H;exact absurd H (by simp)
mutual
def code_Reader_Num.l0:Nat→Int→Int→ByteArray→Int→Int→Option (Int × ByteArray × Int × Int)
 | 0,_,_,_,_,_=>none
 | k + 1,x3,x4,x1000,x1001,x1002=>(code_Reader_Byte.f x1000 x1001 x1002).bind fun bt237=>((code_Reader_off.f bt237.2.1 bt237.2.2.1 bt237.2.2.2).bind fun bt241=>(if bt241.1=true then (some (0,bt241.2.1,bt241.2.2.1,bt241.2.2.2)) else (if x4=8 then (code_Reader_Num.j1 k x3 x4 bt237.1 (decide (bt237.1 > 63)) bt241.2.1 bt241.2.2.1 bt241.2.2.2) else (code_Reader_Num.j1 k x3 x4 bt237.1 false bt241.2.1 bt241.2.2.1 bt241.2.2.2))))
def code_Reader_Num.j1:Nat→Int→Int→Int→Bool→ByteArray→Int→Int→Option (Int × ByteArray × Int × Int)
 | 0,_,_,_,_,_,_,_=>none
 | k + 1,x3,x4,x5,x13,x1000,x1001,x1002=>if x13=true then (code_Reader_Num.j2 k x3 x4 x5 x13 x1000 x1001 x1002) else (if x4 > 0 then (code_Reader_Num.j2 k x3 x4 x5 (x5 == 0) x1000 x1001 x1002) else (code_Reader_Num.j2 k x3 x4 x5 false x1000 x1001 x1002))
def code_Reader_Num.j2:Nat→Int→Int→Int→Bool→ByteArray→Int→Int→Option (Int × ByteArray × Int × Int)
 | 0,_,_,_,_,_,_,_=>none
 | k + 1,x3,x4,x5,x13,x1000,x1001,x1002=>if x13=true then ((code_Reader_fail.f x1000 x1001 x1002 5).bind fun bt245=>(some (0,bt245.1,bt245.2.1,bt245.2.2))) else (if 0≤(wrap64 (7 * x4)) then (if x5 < 128 then (some (Go.bits .or .i64 x3 (shl .i64 (Go.bits .and .i64 x5 127) (wrap64 (7 * x4))),x1000,x1001,x1002)) else (code_Reader_Num.l0 k (Go.bits .or .i64 x3 (shl .i64 (Go.bits .and .i64 x5 127) (wrap64 (7 * x4)))) (wrap64 (x4 + 1)) x1000 x1001 x1002)) else (none))
end
def code_Reader_Num.f (k:Nat) (s0_0:ByteArray) (s0_1:Int) (s0_2:Int):Option (Int × ByteArray × Int × Int):=code_Reader_Num.l0 k 0 0 s0_0 s0_1 s0_2
set_option maxHeartbeats 8000000 in
set_option maxRecDepth 100000 in
theorem code_Reader_Num.calls (k:Nat) (g:Nat) (s0_0:ByteArray) (s0_1:Int) (s0_2:Int) (r1:Int) (r2:ByteArray) (r3:Int) (r4:Int) (w0 w:World) (hI:IsS102 w0 w g s0_0 s0_1 s0_2) (hB:Below w0.heap.size w0 w) (h:code_Reader_Num.f k s0_0 s0_1 s0_2=some (r1,r2,r3,r4)) :
  Calls Tryd.prog 57 #[.pointer (some ⟨g,0,none⟩)] w fun e w'=>e=.returned (.int .i64 r1)∧IsS102 w0 w' g r2 r3 r4∧Below w0.heap.size w0 w'∧KeepBut w w' g none:=by
 have HI0:=Aside0.mk hI;have HK:=Aside0.mk (KeepBut.refl w g none);have HL:=Aside0.mk hB.size;clear hI;have HW0:=Aside0.mk hB.size;have HB:=Aside0.mk hB;clear hB;have H:(code_Reader_Num.l0 k 0 0 s0_0 s0_1 s0_2)=some (r1,r2,r3,r4):=h;clear h;have H':=Aside0.mk H;clear H;go_enter Tryd.func57,Tryd.ntmps57;go_wp2;go_loopg [3,4] k (fun kq v3 v4 w'=>∃ (x3_1:Int) (x4_1:Int) (x1000_1:ByteArray) (x1001_1:Int) (x1002_1:Int),v3=.int .i64 x3_1∧v4=.int .i64 x4_1∧Aside0 (code_Reader_Num.l0 kq x3_1 x4_1 x1000_1 x1001_1 x1002_1=some (r1,r2,r3,r4))∧Aside0 (kq≤k)∧Aside0 (IsS102 w0 w' g x1000_1 x1001_1 x1002_1)∧Aside0 (KeepBut w w' g none)∧Aside0 (Below w0.heap.size w0 w'))
 case atStart=>exact ⟨(0),(0),(s0_0),(s0_1),(s0_2),(by first|rfl|(simp;done)|(simp [*];done)),(by first|rfl|(simp;done)|(simp [*];done)),H',⟨Nat.le_refl _⟩,⟨by repeat (first|(with_reducible first|exact HI0.out|apply IsS102.alloc|apply IsS102.drewN|apply IsS102.drew|apply IsS102.set_0|apply IsS102.set_1|apply IsS102.set_2)|exact HI0.out)⟩,⟨by repeat (first|(with_reducible first|exact HK.out|apply KeepBut.set_|apply keep_drewN|apply keep_drew|apply keep_alloc)|exact HK.out)⟩,⟨by repeat (first|(with_reducible first|exact HB.out|apply bal|apply bdN|apply bd1|refine below_set ?_ (IsS102.ge HI0.out))|exact HB.out)⟩⟩
 case round =>
  clear H';obtain ⟨x3_1,x4_1,x1000_1,x1001_1,x1002_1,rfl,rfl,HA,HK1,HI0,HK,HB⟩:=hrel
  cases gk with
  | zero=>exact absurd HA.out (by simp [code_Reader_Num.l0])
  | succ k1 =>
   have H:=HA.out;clear HA;simp only [code_Reader_Num.l0] at H;replace H:=Option.bind_eq_some_iff.mp H;obtain ⟨⟨t237,t238,t239,t240⟩,A20,H⟩:=H;replace H:((code_Reader_off.f t238 t239 t240).bind fun bt241=>(if bt241.1=true then (some (0,bt241.2.1,bt241.2.2.1,bt241.2.2.2)) else (if x4_1=8 then (code_Reader_Num.j1 k1 x3_1 x4_1 t237 (decide (t237 > 63)) bt241.2.1 bt241.2.2.1 bt241.2.2.2) else (code_Reader_Num.j1 k1 x3_1 x4_1 t237 false bt241.2.1 bt241.2.2.1 bt241.2.2.2))))=some (r1,r2,r3,r4):=H;have A2:=Aside0.mk A20;clear A20;replace H:=Option.bind_eq_some_iff.mp H;obtain ⟨⟨t241,t242,t243,t244⟩,A30,H⟩:=H;replace H:(if t241=true then (some (0,t242,t243,t244)) else (if x4_1=8 then (code_Reader_Num.j1 k1 x3_1 x4_1 t237 (decide (t237 > 63)) t242 t243 t244) else (code_Reader_Num.j1 k1 x3_1 x4_1 t237 false t242 t243 t244)))=some (r1,r2,r3,r4):=H;have A3:=Aside0.mk A30;clear A30;by_cases c4:t241=true
   ·subst c4;(have H1:(some (0,t242,t243,t244))=some (r1,r2,r3,r4):=by rw [if_pos rfl] at H;exact H);clear H;have H:=H1;clear H1;simp only [Option.some.injEq,Prod.mk.injEq] at H;obtain ⟨rfl,rfl,rfl,rfl⟩:=H;go_wp2_with (first|((with_reducible refine gate_callee (f:=77) rfl ?_);refine goesL_ (some 9) rfl rfl Tryd.func77 (by kernel_rfl) rfl #[.pointer (some ⟨g,0,none⟩)] rfl (by (try simp only [List.map_toArray,List.map_cons,List.map_nil]);first|done|rfl|(simp only [List.length_drop,List.length_take];rfl)) ?_;(with_reducible refine (code_Reader_Byte.calls g x1000_1 x1001_1 x1002_1 t237 t238 t239 t240 w0 _ ?side1 ?side2 A2.out).mono ?_);(case side1=>repeat (first|(with_reducible first|exact HI0.out|apply IsS102.alloc|apply IsS102.drewN|apply IsS102.drew|apply IsS102.set_0|apply IsS102.set_1|apply IsS102.set_2)|exact HI0.out));(case side2=>repeat (first|(with_reducible first|exact HB.out|apply bal|apply bdN|apply bd1|refine below_set ?_ (IsS102.ge HI0.out))|exact HB.out));rintro e w5 ⟨rfl,hi,hb,hk⟩;refine ⟨_,rfl,?_⟩;have n0_:=Aside0.mk (KeepBut.trans (by repeat (first|(with_reducible first|exact HK.out|apply KeepBut.set_|apply keep_drewN|apply keep_drew|apply keep_alloc)|exact HK.out)) hk (.inl rfl));have n1_:=Aside0.mk (hb);have n2_:=Aside0.mk (hi);clear HK;clear HB;clear HI0;have HK:=n0_;have HB:=n1_;have HI0:=n2_;clear n0_ n1_ n2_;(try clear hb);(try clear hb2);(try clear hk);(try clear hi))|((with_reducible refine gate_callee (f:=74) rfl ?_);refine goesL_ (some 12) rfl rfl Tryd.func74 (by kernel_rfl) rfl #[.pointer (some ⟨g,0,none⟩)] rfl (by (try simp only [List.map_toArray,List.map_cons,List.map_nil]);first|done|rfl|(simp only [List.length_drop,List.length_take];rfl)) ?_;(with_reducible refine (code_Reader_off.calls g t238 t239 t240 true t242 t243 t244 w0 _ ?side1 ?side2 A3.out).mono ?_);(case side1=>repeat (first|(with_reducible first|exact HI0.out|apply IsS102.alloc|apply IsS102.drewN|apply IsS102.drew|apply IsS102.set_0|apply IsS102.set_1|apply IsS102.set_2)|exact HI0.out));(case side2=>repeat (first|(with_reducible first|exact HB.out|apply bal|apply bdN|apply bd1|refine below_set ?_ (IsS102.ge HI0.out))|exact HB.out));rintro e w6 ⟨rfl,hi,hb,hk⟩;refine ⟨_,rfl,?_⟩;have n0_:=Aside0.mk (KeepBut.trans (by repeat (first|(with_reducible first|exact HK.out|apply KeepBut.set_|apply keep_drewN|apply keep_drew|apply keep_alloc)|exact HK.out)) hk (.inl rfl));have n1_:=Aside0.mk (hb);have n2_:=Aside0.mk (hi);clear HK;clear HB;clear HI0;have HK:=n0_;have HB:=n1_;have HI0:=n2_;clear n0_ n1_ n2_;(try clear hb);(try clear hb2);(try clear hk);(try clear hi)));go_ret;exact ⟨by first|rfl|(simp [errW_none,errW_some] <;> rfl)|(simp [*,errW_none,errW_some] <;> rfl),by repeat (first|(with_reducible first|exact HI0.out|apply IsS102.alloc|apply IsS102.drewN|apply IsS102.drew|apply IsS102.set_0|apply IsS102.set_1|apply IsS102.set_2)|exact HI0.out),by repeat (first|(with_reducible first|exact HB.out|apply bal|apply bdN|apply bd1|refine below_set ?_ (IsS102.ge HI0.out))|exact HB.out),by repeat (first|(with_reducible first|exact HK.out|apply KeepBut.set_|apply keep_drewN|apply keep_drew|apply keep_alloc)|exact HK.out)⟩
   ·replace c4:=Bool.eq_false_iff.mpr c4;subst c4;(have H1:(if x4_1=8 then (code_Reader_Num.j1 k1 x3_1 x4_1 t237 (decide (t237 > 63)) t242 t243 t244) else (code_Reader_Num.j1 k1 x3_1 x4_1 t237 false t242 t243 t244))=some (r1,r2,r3,r4):=by rw [if_neg (show ¬ (false=true) by decide)] at H;exact H);clear H;have H:=H1;clear H1;have HC7:=Aside0.mk H;clear H;go_upto_region 7 with (first|((with_reducible refine gate_callee (f:=77) rfl ?_);refine goesL_ (some 9) rfl rfl Tryd.func77 (by kernel_rfl) rfl #[.pointer (some ⟨g,0,none⟩)] rfl (by (try simp only [List.map_toArray,List.map_cons,List.map_nil]);first|done|rfl|(simp only [List.length_drop,List.length_take];rfl)) ?_;(with_reducible refine (code_Reader_Byte.calls g x1000_1 x1001_1 x1002_1 t237 t238 t239 t240 w0 _ ?side1 ?side2 A2.out).mono ?_);(case side1=>repeat (first|(with_reducible first|exact HI0.out|apply IsS102.alloc|apply IsS102.drewN|apply IsS102.drew|apply IsS102.set_0|apply IsS102.set_1|apply IsS102.set_2)|exact HI0.out));(case side2=>repeat (first|(with_reducible first|exact HB.out|apply bal|apply bdN|apply bd1|refine below_set ?_ (IsS102.ge HI0.out))|exact HB.out));rintro e w8 ⟨rfl,hi,hb,hk⟩;refine ⟨_,rfl,?_⟩;have n0_:=Aside0.mk (KeepBut.trans (by repeat (first|(with_reducible first|exact HK.out|apply KeepBut.set_|apply keep_drewN|apply keep_drew|apply keep_alloc)|exact HK.out)) hk (.inl rfl));have n1_:=Aside0.mk (hb);have n2_:=Aside0.mk (hi);clear HK;clear HB;clear HI0;have HK:=n0_;have HB:=n1_;have HI0:=n2_;clear n0_ n1_ n2_;(try clear hb);(try clear hb2);(try clear hk);(try clear hi))|((with_reducible refine gate_callee (f:=74) rfl ?_);refine goesL_ (some 12) rfl rfl Tryd.func74 (by kernel_rfl) rfl #[.pointer (some ⟨g,0,none⟩)] rfl (by (try simp only [List.map_toArray,List.map_cons,List.map_nil]);first|done|rfl|(simp only [List.length_drop,List.length_take];rfl)) ?_;(with_reducible refine (code_Reader_off.calls g t238 t239 t240 false t242 t243 t244 w0 _ ?side1 ?side2 A3.out).mono ?_);(case side1=>repeat (first|(with_reducible first|exact HI0.out|apply IsS102.alloc|apply IsS102.drewN|apply IsS102.drew|apply IsS102.set_0|apply IsS102.set_1|apply IsS102.set_2)|exact HI0.out));(case side2=>repeat (first|(with_reducible first|exact HB.out|apply bal|apply bdN|apply bd1|refine below_set ?_ (IsS102.ge HI0.out))|exact HB.out));rintro e w9 ⟨rfl,hi,hb,hk⟩;refine ⟨_,rfl,?_⟩;have n0_:=Aside0.mk (KeepBut.trans (by repeat (first|(with_reducible first|exact HK.out|apply KeepBut.set_|apply keep_drewN|apply keep_drew|apply keep_alloc)|exact HK.out)) hk (.inl rfl));have n1_:=Aside0.mk (hb);have n2_:=Aside0.mk (hi);clear HK;clear HB;clear HI0;have HK:=n0_;have HB:=n1_;have HI0:=n2_;clear n0_ n1_ n2_;(try clear hb);(try clear hb2);(try clear hk);(try clear hi)));(try simp only [Act.put,List.setIfInBounds_toArray,List.set_cons_zero,List.set_cons_succ]);go_cut [13] (fun v13 wc=>∃ (kq:Nat) (x13_6:Bool),v13=.bool x13_6∧Aside0 (code_Reader_Num.j1 kq x3_1 x4_1 t237 x13_6 t242 t243 t244=some (r1,r2,r3,r4))∧Aside0 (kq≤k1)∧Aside0 (IsS102 w0 wc g t242 t243 t244)∧Aside0 (KeepBut w wc g none)∧Aside0 (Below w0.heap.size w0 wc))
    case first =>
     have H:=HC7.out;clear HC7;by_cases c10:x4_1=8
     ·rw [if_pos c10] at H;have c10b0:(x4_1 == 8)=true:=beq_iff_eq.mpr c10;have c10b1:(x4_1 != 8)=false:=bne_eq_false_iff_eq.mpr c10;clear c10;(first|rw [c10b0]|(simp only [i64_w,i32_w];rw [c10b0])|skip);have H':=Aside0.mk H;clear H;go_wp2;go_meet
      case rel=>exact ⟨_,(decide (t237 > 63)),(by first|rfl|(simp;done)|(simp [*];done)),H',⟨by have:=HK1.out;first|omega|exact Nat.le_refl _⟩,⟨by repeat (first|(with_reducible first|exact HI0.out|apply IsS102.alloc|apply IsS102.drewN|apply IsS102.drew|apply IsS102.set_0|apply IsS102.set_1|apply IsS102.set_2)|exact HI0.out)⟩,⟨by repeat (first|(with_reducible first|exact HK.out|apply KeepBut.set_|apply keep_drewN|apply keep_drew|apply keep_alloc)|exact HK.out)⟩,⟨by repeat (first|(with_reducible first|exact HB.out|apply bal|apply bdN|apply bd1|refine below_set ?_ (IsS102.ge HI0.out))|exact HB.out)⟩⟩
     ·rw [if_neg c10] at H;have c10b0:(x4_1 == 8)=false:=beq_eq_false_iff_ne.mpr c10;have c10b1:(x4_1 != 8)=true:=bne_iff_ne.mpr c10;(first|rw [c10b0]|(simp only [i64_w,i32_w];rw [c10b0])|skip);have H':=Aside0.mk H;clear H;go_wp2;go_meet
      case rel=>exact ⟨_,(false),(by first|rfl|(simp;done)|(simp [*];done)),H',⟨by have:=HK1.out;first|omega|exact Nat.le_refl _⟩,⟨by repeat (first|(with_reducible first|exact HI0.out|apply IsS102.alloc|apply IsS102.drewN|apply IsS102.drew|apply IsS102.set_0|apply IsS102.set_1|apply IsS102.set_2)|exact HI0.out)⟩,⟨by repeat (first|(with_reducible first|exact HK.out|apply KeepBut.set_|apply keep_drewN|apply keep_drew|apply keep_alloc)|exact HK.out)⟩,⟨by repeat (first|(with_reducible first|exact HB.out|apply bal|apply bdN|apply bd1|refine below_set ?_ (IsS102.ge HI0.out))|exact HB.out)⟩⟩
    case rest =>
     clear HC7;(try clear c1);(try clear p2);(try clear c4);(try clear c5);(try clear c7);(try clear c10);(try clear c10b0);(try clear c10b1);obtain ⟨kq,x13_6,rfl,HA,HJ6,HI0,HK,HB⟩:=hcut
     cases kq with
     | zero=>exact absurd HA.out (by simp [code_Reader_Num.j1])
     | succ kj6 =>
      have H:=HA.out;clear HA;simp only [code_Reader_Num.j1] at H;have HC11:=Aside0.mk H;clear H;go_upto_if 13 with (fail);go_cut [13] (fun v13 wc=>∃ (kq:Nat) (x13_10:Bool),v13=.bool x13_10∧Aside0 (code_Reader_Num.j2 kq x3_1 x4_1 t237 x13_10 t242 t243 t244=some (r1,r2,r3,r4))∧Aside0 (kq≤kj6)∧Aside0 (IsS102 w0 wc g t242 t243 t244)∧Aside0 (KeepBut w wc g none)∧Aside0 (Below w0.heap.size w0 wc))
      case first =>
       have H:=HC11.out;clear HC11;by_cases c12:x13_6=true
       ·subst c12;(have H1:(code_Reader_Num.j2 kj6 x3_1 x4_1 t237 true t242 t243 t244)=some (r1,r2,r3,r4):=by rw [if_pos rfl] at H;exact H);clear H;have H:=H1;clear H1;have H':=Aside0.mk H;clear H;go_wp2;go_meet
        case rel=>exact ⟨_,(true),(by first|rfl|(simp;done)|(simp [*];done)),H',⟨by have:=HK1.out;have:=HJ6.out;first|omega|exact Nat.le_refl _⟩,⟨by repeat (first|(with_reducible first|exact HI0.out|apply IsS102.alloc|apply IsS102.drewN|apply IsS102.drew|apply IsS102.set_0|apply IsS102.set_1|apply IsS102.set_2)|exact HI0.out)⟩,⟨by repeat (first|(with_reducible first|exact HK.out|apply KeepBut.set_|apply keep_drewN|apply keep_drew|apply keep_alloc)|exact HK.out)⟩,⟨by repeat (first|(with_reducible first|exact HB.out|apply bal|apply bdN|apply bd1|refine below_set ?_ (IsS102.ge HI0.out))|exact HB.out)⟩⟩
       ·replace c12:=Bool.eq_false_iff.mpr c12;subst c12;(have H1:(if x4_1 > 0 then (code_Reader_Num.j2 kj6 x3_1 x4_1 t237 (t237 == 0) t242 t243 t244) else (code_Reader_Num.j2 kj6 x3_1 x4_1 t237 false t242 t243 t244))=some (r1,r2,r3,r4):=by rw [if_neg (show ¬ (false=true) by decide)] at H;exact H);clear H;have H:=H1;clear H1;by_cases c13:x4_1 > 0
        ·rw [if_pos c13] at H;have c13b0:decide (0 < x4_1)=true:=decide_eq_true c13;clear c13;(first|rw [c13b0]|(simp only [i64_w,i32_w];rw [c13b0])|skip);have H':=Aside0.mk H;clear H;go_wp2;go_meet
         case rel=>exact ⟨_,((t237 == 0)),(by first|rfl|(simp;done)|(simp [*];done)),H',⟨by have:=HK1.out;have:=HJ6.out;first|omega|exact Nat.le_refl _⟩,⟨by repeat (first|(with_reducible first|exact HI0.out|apply IsS102.alloc|apply IsS102.drewN|apply IsS102.drew|apply IsS102.set_0|apply IsS102.set_1|apply IsS102.set_2)|exact HI0.out)⟩,⟨by repeat (first|(with_reducible first|exact HK.out|apply KeepBut.set_|apply keep_drewN|apply keep_drew|apply keep_alloc)|exact HK.out)⟩,⟨by repeat (first|(with_reducible first|exact HB.out|apply bal|apply bdN|apply bd1|refine below_set ?_ (IsS102.ge HI0.out))|exact HB.out)⟩⟩
        ·rw [if_neg c13] at H;have c13b0:decide (0 < x4_1)=false:=decide_eq_false c13;clear c13;(first|rw [c13b0]|(simp only [i64_w,i32_w];rw [c13b0])|skip);have H':=Aside0.mk H;clear H;go_wp2;go_meet
         case rel=>exact ⟨_,(false),(by first|rfl|(simp;done)|(simp [*];done)),H',⟨by have:=HK1.out;have:=HJ6.out;first|omega|exact Nat.le_refl _⟩,⟨by repeat (first|(with_reducible first|exact HI0.out|apply IsS102.alloc|apply IsS102.drewN|apply IsS102.drew|apply IsS102.set_0|apply IsS102.set_1|apply IsS102.set_2)|exact HI0.out)⟩,⟨by repeat (first|(with_reducible first|exact HK.out|apply KeepBut.set_|apply keep_drewN|apply keep_drew|apply keep_alloc)|exact HK.out)⟩,⟨by repeat (first|(with_reducible first|exact HB.out|apply bal|apply bdN|apply bd1|refine below_set ?_ (IsS102.ge HI0.out))|exact HB.out)⟩⟩
      case rest =>
       clear HC11;(try clear c1);(try clear p2);(try clear c4);(try clear c5);(try clear c7);(try clear c10);(try clear c10b0);(try clear c10b1);(try clear c12);(try clear c13);(try clear c13b0);(try clear p2);obtain ⟨kq,x13_10,rfl,HA,HJ10,HI0,HK,HB⟩:=hcut
       cases kq with
       | zero=>exact absurd HA.out (by simp [code_Reader_Num.j2])
       | succ kj10 =>
        have H:=HA.out;clear HA;simp only [code_Reader_Num.j2] at H;by_cases c14:x13_10=true
        ·subst c14;(have H1:((code_Reader_fail.f t242 t243 t244 5).bind fun bt245=>(some (0,bt245.1,bt245.2.1,bt245.2.2)))=some (r1,r2,r3,r4):=by rw [if_pos rfl] at H;exact H);clear H;have H:=H1;clear H1;replace H:=Option.bind_eq_some_iff.mp H;obtain ⟨⟨t245,t246,t247⟩,A150,H⟩:=H;replace H:(some (0,t245,t246,t247))=some (r1,r2,r3,r4):=H;have A15:=Aside0.mk A150;clear A150;simp only [Option.some.injEq,Prod.mk.injEq] at H;obtain ⟨rfl,rfl,rfl,rfl⟩:=H;go_wp2_with (first|((with_reducible refine gate_callee (f:=75) rfl ?_);refine goesL_ (some 27) rfl rfl Tryd.func75 (by kernel_rfl) rfl #[.pointer (some ⟨g,0,none⟩),.int .i64 5] rfl (by (try simp only [List.map_toArray,List.map_cons,List.map_nil]);first|done|rfl|(simp only [List.length_drop,List.length_take];rfl)) ?_;(with_reducible refine (code_Reader_fail.calls g t242 t243 t244 5 t245 t246 t247 w0 _ ?side1 ?side2 A15.out).mono ?_);(case side1=>repeat (first|(with_reducible first|exact HI0.out|apply IsS102.alloc|apply IsS102.drewN|apply IsS102.drew|apply IsS102.set_0|apply IsS102.set_1|apply IsS102.set_2)|exact HI0.out));(case side2=>repeat (first|(with_reducible first|exact HB.out|apply bal|apply bdN|apply bd1|refine below_set ?_ (IsS102.ge HI0.out))|exact HB.out));rintro e w16 ⟨rfl,hi,hb,hk⟩;refine ⟨_,rfl,?_⟩;have n0_:=Aside0.mk (KeepBut.trans (by repeat (first|(with_reducible first|exact HK.out|apply KeepBut.set_|apply keep_drewN|apply keep_drew|apply keep_alloc)|exact HK.out)) hk (.inl rfl));have n1_:=Aside0.mk (hb);have n2_:=Aside0.mk (hi);clear HK;clear HB;clear HI0;have HK:=n0_;have HB:=n1_;have HI0:=n2_;clear n0_ n1_ n2_;(try clear hb);(try clear hb2);(try clear hk);(try clear hi)));go_ret;exact ⟨by first|rfl|(simp [errW_none,errW_some] <;> rfl)|(simp [*,errW_none,errW_some] <;> rfl),by repeat (first|(with_reducible first|exact HI0.out|apply IsS102.alloc|apply IsS102.drewN|apply IsS102.drew|apply IsS102.set_0|apply IsS102.set_1|apply IsS102.set_2)|exact HI0.out),by repeat (first|(with_reducible first|exact HB.out|apply bal|apply bdN|apply bd1|refine below_set ?_ (IsS102.ge HI0.out))|exact HB.out),by repeat (first|(with_reducible first|exact HK.out|apply KeepBut.set_|apply keep_drewN|apply keep_drew|apply keep_alloc)|exact HK.out)⟩
        ·replace c14:=Bool.eq_false_iff.mpr c14;subst c14;(have H1:(if 0≤(wrap64 (7 * x4_1)) then (if t237 < 128 then (some (Go.bits .or .i64 x3_1 (shl .i64 (Go.bits .and .i64 t237 127) (wrap64 (7 * x4_1))),t242,t243,t244)) else (code_Reader_Num.l0 kj10 (Go.bits .or .i64 x3_1 (shl .i64 (Go.bits .and .i64 t237 127) (wrap64 (7 * x4_1)))) (wrap64 (x4_1 + 1)) t242 t243 t244)) else (none))=some (r1,r2,r3,r4):=by rw [if_neg (show ¬ (false=true) by decide)] at H;exact H);clear H;have H:=H1;clear H1;obtain ⟨ji17,hji17⟩:∃ j_:Int,(wrap64 (7 * x4_1))=j_:=⟨_,rfl⟩;(replace H:(if 0≤(ji17) then (if t237 < 128 then (some (Go.bits .or .i64 x3_1 (shl .i64 (Go.bits .and .i64 t237 127) (ji17)),t242,t243,t244)) else (code_Reader_Num.l0 kj10 (Go.bits .or .i64 x3_1 (shl .i64 (Go.bits .and .i64 t237 127) (ji17))) (wrap64 (x4_1 + 1)) t242 t243 t244)) else (none))=some (r1,r2,r3,r4):=by first|(rw [hji17] at H;exact H)|(simp only [hji17] at H ⊢;exact H));have hji17w:(IntKind.i64.wrap (7 * x4_1))=ji17:=(i64_w _).trans hji17;by_cases c18:0≤(ji17)
         ·rw [if_pos c18] at H;have c18b0:=eq_true c18;have c18b1:decide (0≤(ji17))=true:=decide_eq_true c18;clear c18;obtain ⟨ji19,hji19⟩:∃ j_:Int,(shl .i64 (Go.bits .and .i64 t237 127) (ji17))=j_:=⟨_,rfl⟩;(replace H:(if t237 < 128 then (some (Go.bits .or .i64 x3_1 (ji19),t242,t243,t244)) else (code_Reader_Num.l0 kj10 (Go.bits .or .i64 x3_1 (ji19)) (wrap64 (x4_1 + 1)) t242 t243 t244))=some (r1,r2,r3,r4):=by first|(rw [hji19] at H;exact H)|(simp only [hji19] at H ⊢;exact H));have hji19_:(IntKind.i64.wrap ((Go.bits .and .i64 t237 127) * 2 ^ min (ji17).toNat 64))=ji19:=hji19;have hji19z:(ji17)≤64→(IntKind.i64.wrap ((Go.bits .and .i64 t237 127) * 2 ^ (ji17).toNat))=ji19:=shl_small hji19;have hji19y:(wrap64 ((Go.bits .and .i64 t237 127) * 2 ^ min (ji17).toNat 64))=ji19:=(i64_w _).symm.trans hji19_;(have hji19x:(ji17)≤64→(wrap64 ((Go.bits .and .i64 t237 127) * 2 ^ (ji17).toNat))=ji19:=fun h_=>(i64_w _).symm.trans (hji19z h_));by_cases c20:t237 < 128
          ·rw [if_pos c20] at H;have c20b0:decide (t237 < 128)=true:=decide_eq_true c20;clear c20;simp only [Option.some.injEq,Prod.mk.injEq] at H;obtain ⟨rfl,rfl,rfl,rfl⟩:=H;go_wp2;go_ret;exact ⟨by first|rfl|(simp [errW_none,errW_some] <;> rfl)|(simp only [← hji17,← hji19];first|rfl|(simp [errW_none,errW_some] <;> rfl))|(simp [*,errW_none,errW_some] <;> rfl),by repeat (first|(with_reducible first|exact HI0.out|apply IsS102.alloc|apply IsS102.drewN|apply IsS102.drew|apply IsS102.set_0|apply IsS102.set_1|apply IsS102.set_2)|exact HI0.out),by repeat (first|(with_reducible first|exact HB.out|apply bal|apply bdN|apply bd1|refine below_set ?_ (IsS102.ge HI0.out))|exact HB.out),by repeat (first|(with_reducible first|exact HK.out|apply KeepBut.set_|apply keep_drewN|apply keep_drew|apply keep_alloc)|exact HK.out)⟩
          ·rw [if_neg c20] at H;have c20b0:decide (t237 < 128)=false:=decide_eq_false c20;clear c20;have H':=Aside0.mk H;clear H;go_wp2;go_roundg kj10
           case measure=>have:=HK1.out;have:=HJ6.out;have:=HJ10.out;omega
           case rel=>exact ⟨(Go.bits .or .i64 x3_1 (ji19)),(wrap64 (x4_1 + 1)),(t242),(t243),(t244),(by first|rfl|(simp;done)|(simp only [← hji19] <;> (first|rfl|simp))|(simp [*];done)),(by first|rfl|(simp;done)|(simp [*];done)),H',⟨by have:=HK1.out;have:=HJ6.out;have:=HJ10.out;omega⟩,⟨by repeat (first|(with_reducible first|exact HI0.out|apply IsS102.alloc|apply IsS102.drewN|apply IsS102.drew|apply IsS102.set_0|apply IsS102.set_1|apply IsS102.set_2)|exact HI0.out)⟩,⟨by repeat (first|(with_reducible first|exact HK.out|apply KeepBut.set_|apply keep_drewN|apply keep_drew|apply keep_alloc)|exact HK.out)⟩,⟨by repeat (first|(with_reducible first|exact HB.out|apply bal|apply bdN|apply bd1|refine below_set ?_ (IsS102.ge HI0.out))|exact HB.out)⟩⟩
         ·rw [if_neg c18] at H;exact absurd H (by simp)
def code_Reader_Count.f (k:Nat) (s0_0:ByteArray) (s0_1:Int) (s0_2:Int) (a1:Int):Option (Int × ByteArray × Int × Int):=(code_Reader_Num.f k s0_0 s0_1 s0_2).bind fun bt248=>((code_Reader_off.f bt248.2.1 bt248.2.2.1 bt248.2.2.2).bind fun bt252=>(if bt252.1=true then (some (bt248.1,bt252.2.1,bt252.2.2.1,bt252.2.2.2)) else (if bt248.1 > a1 then ((code_Reader_fail.f bt252.2.1 bt252.2.2.1 bt252.2.2.2 4).bind fun bt256=>(some (0,bt256.1,bt256.2.1,bt256.2.2))) else (some (bt248.1,bt252.2.1,bt252.2.2.1,bt252.2.2.2)))))
set_option maxHeartbeats 8000000 in
set_option maxRecDepth 100000 in
theorem code_Reader_Count.calls (k:Nat) (g:Nat) (s0_0:ByteArray) (s0_1:Int) (s0_2:Int) (a1:Int) (r1:Int) (r2:ByteArray) (r3:Int) (r4:Int) (w0 w:World) (hI:IsS102 w0 w g s0_0 s0_1 s0_2) (hB:Below w0.heap.size w0 w) (h:code_Reader_Count.f k s0_0 s0_1 s0_2 a1=some (r1,r2,r3,r4)) :
  Calls Tryd.prog 55 #[.pointer (some ⟨g,0,none⟩),.int .i64 a1] w fun e w'=>e=.returned (.int .i64 r1)∧IsS102 w0 w' g r2 r3 r4∧Below w0.heap.size w0 w'∧KeepBut w w' g none:=by
 have HI0:=Aside0.mk hI;have HK:=Aside0.mk (KeepBut.refl w g none);have HL:=Aside0.mk hB.size;clear hI;have HW0:=Aside0.mk hB.size;have HB:=Aside0.mk hB;clear hB;have H:((code_Reader_Num.f k s0_0 s0_1 s0_2).bind fun bt248=>((code_Reader_off.f bt248.2.1 bt248.2.2.1 bt248.2.2.2).bind fun bt252=>(if bt252.1=true then (some (bt248.1,bt252.2.1,bt252.2.2.1,bt252.2.2.2)) else (if bt248.1 > a1 then ((code_Reader_fail.f bt252.2.1 bt252.2.2.1 bt252.2.2.2 4).bind fun bt256=>(some (0,bt256.1,bt256.2.1,bt256.2.2))) else (some (bt248.1,bt252.2.1,bt252.2.2.1,bt252.2.2.2))))))=some (r1,r2,r3,r4):=h;clear h;replace H:=Option.bind_eq_some_iff.mp H;obtain ⟨⟨t248,t249,t250,t251⟩,A30,H⟩:=H;replace H:((code_Reader_off.f t249 t250 t251).bind fun bt252=>(if bt252.1=true then (some (t248,bt252.2.1,bt252.2.2.1,bt252.2.2.2)) else (if t248 > a1 then ((code_Reader_fail.f bt252.2.1 bt252.2.2.1 bt252.2.2.2 4).bind fun bt256=>(some (0,bt256.1,bt256.2.1,bt256.2.2))) else (some (t248,bt252.2.1,bt252.2.2.1,bt252.2.2.2)))))=some (r1,r2,r3,r4):=H;have A3:=Aside0.mk A30;clear A30;replace H:=Option.bind_eq_some_iff.mp H;obtain ⟨⟨t252,t253,t254,t255⟩,A40,H⟩:=H;replace H:(if t252=true then (some (t248,t253,t254,t255)) else (if t248 > a1 then ((code_Reader_fail.f t253 t254 t255 4).bind fun bt256=>(some (0,bt256.1,bt256.2.1,bt256.2.2))) else (some (t248,t253,t254,t255))))=some (r1,r2,r3,r4):=H;have A4:=Aside0.mk A40;clear A40;by_cases c5:t252=true
 ·subst c5;(have H1:(some (t248,t253,t254,t255))=some (r1,r2,r3,r4):=by rw [if_pos rfl] at H;exact H);clear H;have H:=H1;clear H1;simp only [Option.some.injEq,Prod.mk.injEq] at H;obtain ⟨rfl,rfl,rfl,rfl⟩:=H;go_enter Tryd.func55,Tryd.ntmps55;go_wp2_with (first|((with_reducible refine gate_callee (f:=57) rfl ?_);refine goesL_ (some 7) rfl rfl Tryd.func57 (by kernel_rfl) rfl #[.pointer (some ⟨g,0,none⟩)] rfl (by (try simp only [List.map_toArray,List.map_cons,List.map_nil]);first|done|rfl|(simp only [List.length_drop,List.length_take];rfl)) ?_;(with_reducible refine (code_Reader_Num.calls k g s0_0 s0_1 s0_2 t248 t249 t250 t251 w0 _ ?side1 ?side2 A3.out).mono ?_);(case side1=>repeat (first|(with_reducible first|exact HI0.out|apply IsS102.alloc|apply IsS102.drewN|apply IsS102.drew|apply IsS102.set_0|apply IsS102.set_1|apply IsS102.set_2)|exact HI0.out));(case side2=>repeat (first|(with_reducible first|exact HB.out|apply bal|apply bdN|apply bd1|refine below_set ?_ (IsS102.ge HI0.out))|exact HB.out));rintro e w6 ⟨rfl,hi,hb,hk⟩;refine ⟨_,rfl,?_⟩;have n0_:=Aside0.mk (KeepBut.trans (by repeat (first|(with_reducible first|exact HK.out|apply KeepBut.set_|apply keep_drewN|apply keep_drew|apply keep_alloc)|exact HK.out)) hk (.inl rfl));have n1_:=Aside0.mk (hb);have n2_:=Aside0.mk (hi);clear HK;clear HB;clear HI0;have HK:=n0_;have HB:=n1_;have HI0:=n2_;clear n0_ n1_ n2_;(try clear hb);(try clear hb2);(try clear hk);(try clear hi))|((with_reducible refine gate_callee (f:=74) rfl ?_);refine goesL_ (some 9) rfl rfl Tryd.func74 (by kernel_rfl) rfl #[.pointer (some ⟨g,0,none⟩)] rfl (by (try simp only [List.map_toArray,List.map_cons,List.map_nil]);first|done|rfl|(simp only [List.length_drop,List.length_take];rfl)) ?_;(with_reducible refine (code_Reader_off.calls g t249 t250 t251 true t253 t254 t255 w0 _ ?side1 ?side2 A4.out).mono ?_);(case side1=>repeat (first|(with_reducible first|exact HI0.out|apply IsS102.alloc|apply IsS102.drewN|apply IsS102.drew|apply IsS102.set_0|apply IsS102.set_1|apply IsS102.set_2)|exact HI0.out));(case side2=>repeat (first|(with_reducible first|exact HB.out|apply bal|apply bdN|apply bd1|refine below_set ?_ (IsS102.ge HI0.out))|exact HB.out));rintro e w7 ⟨rfl,hi,hb,hk⟩;refine ⟨_,rfl,?_⟩;have n0_:=Aside0.mk (KeepBut.trans (by repeat (first|(with_reducible first|exact HK.out|apply KeepBut.set_|apply keep_drewN|apply keep_drew|apply keep_alloc)|exact HK.out)) hk (.inl rfl));have n1_:=Aside0.mk (hb);have n2_:=Aside0.mk (hi);clear HK;clear HB;clear HI0;have HK:=n0_;have HB:=n1_;have HI0:=n2_;clear n0_ n1_ n2_;(try clear hb);(try clear hb2);(try clear hk);(try clear hi)));go_ret;exact ⟨by first|rfl|(simp [errW_none,errW_some] <;> rfl)|(simp [*,errW_none,errW_some] <;> rfl),by repeat (first|(with_reducible first|exact HI0.out|apply IsS102.alloc|apply IsS102.drewN|apply IsS102.drew|apply IsS102.set_0|apply IsS102.set_1|apply IsS102.set_2)|exact HI0.out),by repeat (first|(with_reducible first|exact HB.out|apply bal|apply bdN|apply bd1|refine below_set ?_ (IsS102.ge HI0.out))|exact HB.out),by repeat (first|(with_reducible first|exact HK.out|apply KeepBut.set_|apply keep_drewN|apply keep_drew|apply keep_alloc)|exact HK.out)⟩
 ·replace c5:=Bool.eq_false_iff.mpr c5;subst c5;(have H1:(if t248 > a1 then ((code_Reader_fail.f t253 t254 t255 4).bind fun bt256=>(some (0,bt256.1,bt256.2.1,bt256.2.2))) else (some (t248,t253,t254,t255)))=some (r1,r2,r3,r4):=by rw [if_neg (show ¬ (false=true) by decide)] at H;exact H);clear H;have H:=H1;clear H1;by_cases c8:t248 > a1
  ·rw [if_pos c8] at H;have c8b0:decide (a1 < t248)=true:=decide_eq_true c8;clear c8;replace H:=Option.bind_eq_some_iff.mp H;obtain ⟨⟨t256,t257,t258⟩,A90,H⟩:=H;replace H:(some (0,t256,t257,t258))=some (r1,r2,r3,r4):=H;have A9:=Aside0.mk A90;clear A90;simp only [Option.some.injEq,Prod.mk.injEq] at H;obtain ⟨rfl,rfl,rfl,rfl⟩:=H;go_enter Tryd.func55,Tryd.ntmps55;go_wp2_with (first|((with_reducible refine gate_callee (f:=57) rfl ?_);refine goesL_ (some 7) rfl rfl Tryd.func57 (by kernel_rfl) rfl #[.pointer (some ⟨g,0,none⟩)] rfl (by (try simp only [List.map_toArray,List.map_cons,List.map_nil]);first|done|rfl|(simp only [List.length_drop,List.length_take];rfl)) ?_;(with_reducible refine (code_Reader_Num.calls k g s0_0 s0_1 s0_2 t248 t249 t250 t251 w0 _ ?side1 ?side2 A3.out).mono ?_);(case side1=>repeat (first|(with_reducible first|exact HI0.out|apply IsS102.alloc|apply IsS102.drewN|apply IsS102.drew|apply IsS102.set_0|apply IsS102.set_1|apply IsS102.set_2)|exact HI0.out));(case side2=>repeat (first|(with_reducible first|exact HB.out|apply bal|apply bdN|apply bd1|refine below_set ?_ (IsS102.ge HI0.out))|exact HB.out));rintro e w10 ⟨rfl,hi,hb,hk⟩;refine ⟨_,rfl,?_⟩;have n0_:=Aside0.mk (KeepBut.trans (by repeat (first|(with_reducible first|exact HK.out|apply KeepBut.set_|apply keep_drewN|apply keep_drew|apply keep_alloc)|exact HK.out)) hk (.inl rfl));have n1_:=Aside0.mk (hb);have n2_:=Aside0.mk (hi);clear HK;clear HB;clear HI0;have HK:=n0_;have HB:=n1_;have HI0:=n2_;clear n0_ n1_ n2_;(try clear hb);(try clear hb2);(try clear hk);(try clear hi))|((with_reducible refine gate_callee (f:=74) rfl ?_);refine goesL_ (some 9) rfl rfl Tryd.func74 (by kernel_rfl) rfl #[.pointer (some ⟨g,0,none⟩)] rfl (by (try simp only [List.map_toArray,List.map_cons,List.map_nil]);first|done|rfl|(simp only [List.length_drop,List.length_take];rfl)) ?_;(with_reducible refine (code_Reader_off.calls g t249 t250 t251 false t253 t254 t255 w0 _ ?side1 ?side2 A4.out).mono ?_);(case side1=>repeat (first|(with_reducible first|exact HI0.out|apply IsS102.alloc|apply IsS102.drewN|apply IsS102.drew|apply IsS102.set_0|apply IsS102.set_1|apply IsS102.set_2)|exact HI0.out));(case side2=>repeat (first|(with_reducible first|exact HB.out|apply bal|apply bdN|apply bd1|refine below_set ?_ (IsS102.ge HI0.out))|exact HB.out));rintro e w11 ⟨rfl,hi,hb,hk⟩;refine ⟨_,rfl,?_⟩;have n0_:=Aside0.mk (KeepBut.trans (by repeat (first|(with_reducible first|exact HK.out|apply KeepBut.set_|apply keep_drewN|apply keep_drew|apply keep_alloc)|exact HK.out)) hk (.inl rfl));have n1_:=Aside0.mk (hb);have n2_:=Aside0.mk (hi);clear HK;clear HB;clear HI0;have HK:=n0_;have HB:=n1_;have HI0:=n2_;clear n0_ n1_ n2_;(try clear hb);(try clear hb2);(try clear hk);(try clear hi))|((with_reducible refine gate_callee (f:=75) rfl ?_);refine goesL_ (some 17) rfl rfl Tryd.func75 (by kernel_rfl) rfl #[.pointer (some ⟨g,0,none⟩),.int .i64 4] rfl (by (try simp only [List.map_toArray,List.map_cons,List.map_nil]);first|done|rfl|(simp only [List.length_drop,List.length_take];rfl)) ?_;(with_reducible refine (code_Reader_fail.calls g t253 t254 t255 4 t256 t257 t258 w0 _ ?side1 ?side2 A9.out).mono ?_);(case side1=>repeat (first|(with_reducible first|exact HI0.out|apply IsS102.alloc|apply IsS102.drewN|apply IsS102.drew|apply IsS102.set_0|apply IsS102.set_1|apply IsS102.set_2)|exact HI0.out));(case side2=>repeat (first|(with_reducible first|exact HB.out|apply bal|apply bdN|apply bd1|refine below_set ?_ (IsS102.ge HI0.out))|exact HB.out));rintro e w12 ⟨rfl,hi,hb,hk⟩;refine ⟨_,rfl,?_⟩;have n0_:=Aside0.mk (KeepBut.trans (by repeat (first|(with_reducible first|exact HK.out|apply KeepBut.set_|apply keep_drewN|apply keep_drew|apply keep_alloc)|exact HK.out)) hk (.inl rfl));have n1_:=Aside0.mk (hb);have n2_:=Aside0.mk (hi);clear HK;clear HB;clear HI0;have HK:=n0_;have HB:=n1_;have HI0:=n2_;clear n0_ n1_ n2_;(try clear hb);(try clear hb2);(try clear hk);(try clear hi)));go_ret;exact ⟨by first|rfl|(simp [errW_none,errW_some] <;> rfl)|(simp [*,errW_none,errW_some] <;> rfl),by repeat (first|(with_reducible first|exact HI0.out|apply IsS102.alloc|apply IsS102.drewN|apply IsS102.drew|apply IsS102.set_0|apply IsS102.set_1|apply IsS102.set_2)|exact HI0.out),by repeat (first|(with_reducible first|exact HB.out|apply bal|apply bdN|apply bd1|refine below_set ?_ (IsS102.ge HI0.out))|exact HB.out),by repeat (first|(with_reducible first|exact HK.out|apply KeepBut.set_|apply keep_drewN|apply keep_drew|apply keep_alloc)|exact HK.out)⟩
  ·rw [if_neg c8] at H;have c8b0:decide (a1 < t248)=false:=decide_eq_false c8;clear c8;simp only [Option.some.injEq,Prod.mk.injEq] at H;obtain ⟨rfl,rfl,rfl,rfl⟩:=H;go_enter Tryd.func55,Tryd.ntmps55;go_wp2_with (first|((with_reducible refine gate_callee (f:=57) rfl ?_);refine goesL_ (some 7) rfl rfl Tryd.func57 (by kernel_rfl) rfl #[.pointer (some ⟨g,0,none⟩)] rfl (by (try simp only [List.map_toArray,List.map_cons,List.map_nil]);first|done|rfl|(simp only [List.length_drop,List.length_take];rfl)) ?_;(with_reducible refine (code_Reader_Num.calls k g s0_0 s0_1 s0_2 t248 t249 t250 t251 w0 _ ?side1 ?side2 A3.out).mono ?_);(case side1=>repeat (first|(with_reducible first|exact HI0.out|apply IsS102.alloc|apply IsS102.drewN|apply IsS102.drew|apply IsS102.set_0|apply IsS102.set_1|apply IsS102.set_2)|exact HI0.out));(case side2=>repeat (first|(with_reducible first|exact HB.out|apply bal|apply bdN|apply bd1|refine below_set ?_ (IsS102.ge HI0.out))|exact HB.out));rintro e w13 ⟨rfl,hi,hb,hk⟩;refine ⟨_,rfl,?_⟩;have n0_:=Aside0.mk (KeepBut.trans (by repeat (first|(with_reducible first|exact HK.out|apply KeepBut.set_|apply keep_drewN|apply keep_drew|apply keep_alloc)|exact HK.out)) hk (.inl rfl));have n1_:=Aside0.mk (hb);have n2_:=Aside0.mk (hi);clear HK;clear HB;clear HI0;have HK:=n0_;have HB:=n1_;have HI0:=n2_;clear n0_ n1_ n2_;(try clear hb);(try clear hb2);(try clear hk);(try clear hi))|((with_reducible refine gate_callee (f:=74) rfl ?_);refine goesL_ (some 9) rfl rfl Tryd.func74 (by kernel_rfl) rfl #[.pointer (some ⟨g,0,none⟩)] rfl (by (try simp only [List.map_toArray,List.map_cons,List.map_nil]);first|done|rfl|(simp only [List.length_drop,List.length_take];rfl)) ?_;(with_reducible refine (code_Reader_off.calls g t249 t250 t251 false t253 t254 t255 w0 _ ?side1 ?side2 A4.out).mono ?_);(case side1=>repeat (first|(with_reducible first|exact HI0.out|apply IsS102.alloc|apply IsS102.drewN|apply IsS102.drew|apply IsS102.set_0|apply IsS102.set_1|apply IsS102.set_2)|exact HI0.out));(case side2=>repeat (first|(with_reducible first|exact HB.out|apply bal|apply bdN|apply bd1|refine below_set ?_ (IsS102.ge HI0.out))|exact HB.out));rintro e w14 ⟨rfl,hi,hb,hk⟩;refine ⟨_,rfl,?_⟩;have n0_:=Aside0.mk (KeepBut.trans (by repeat (first|(with_reducible first|exact HK.out|apply KeepBut.set_|apply keep_drewN|apply keep_drew|apply keep_alloc)|exact HK.out)) hk (.inl rfl));have n1_:=Aside0.mk (hb);have n2_:=Aside0.mk (hi);clear HK;clear HB;clear HI0;have HK:=n0_;have HB:=n1_;have HI0:=n2_;clear n0_ n1_ n2_;(try clear hb);(try clear hb2);(try clear hk);(try clear hi)));go_ret;exact ⟨by first|rfl|(simp [errW_none,errW_some] <;> rfl)|(simp [*,errW_none,errW_some] <;> rfl),by repeat (first|(with_reducible first|exact HI0.out|apply IsS102.alloc|apply IsS102.drewN|apply IsS102.drew|apply IsS102.set_0|apply IsS102.set_1|apply IsS102.set_2)|exact HI0.out),by repeat (first|(with_reducible first|exact HB.out|apply bal|apply bdN|apply bd1|refine below_set ?_ (IsS102.ge HI0.out))|exact HB.out),by repeat (first|(with_reducible first|exact HK.out|apply KeepBut.set_|apply keep_drewN|apply keep_drew|apply keep_alloc)|exact HK.out)⟩
def code_Reader_Left.f (s0_0:ByteArray) (s0_1:Int) (s0_2:Int):Option (Int × ByteArray × Int × Int):=some (wrap64 ((s0_0.size:Int) - s0_1),s0_0,s0_1,s0_2)
set_option maxHeartbeats 8000000 in
set_option maxRecDepth 100000 in
theorem code_Reader_Left.calls (g:Nat) (s0_0:ByteArray) (s0_1:Int) (s0_2:Int) (r1:Int) (r2:ByteArray) (r3:Int) (r4:Int) (w0 w:World) (hI:IsS102 w0 w g s0_0 s0_1 s0_2) (hB:Below w0.heap.size w0 w) (h:code_Reader_Left.f s0_0 s0_1 s0_2=some (r1,r2,r3,r4)) :
  Calls Tryd.prog 59 #[.pointer (some ⟨g,0,none⟩)] w fun e w'=>e=.returned (.int .i64 r1)∧IsS102 w0 w' g r2 r3 r4∧Below w0.heap.size w0 w'∧KeepBut w w' g none:=by
 have HI0:=Aside0.mk hI;have HK:=Aside0.mk (KeepBut.refl w g none);have HL:=Aside0.mk hB.size;clear hI;have HW0:=Aside0.mk hB.size;have HB:=Aside0.mk hB;clear hB;have H:(some (wrap64 ((s0_0.size:Int) - s0_1),s0_0,s0_1,s0_2))=some (r1,r2,r3,r4):=h;clear h;simp only [Option.some.injEq,Prod.mk.injEq] at H;obtain ⟨rfl,rfl,rfl,rfl⟩:=H;obtain ⟨HGz2,hgz2⟩:=HI0.out;have hcz2_0:=cellS102_0 HGz2;have hcz2_1:=cellS102_1 HGz2;have hcz2_2:=cellS102_2 HGz2;have hfz2_0:=blk_frozen HGz2 0;have hfz2_1:=blk_frozen HGz2 1;have hfz2_2:=blk_frozen HGz2 2;clear HGz2 hgz2;go_enter Tryd.func59,Tryd.ntmps59;go_wp2;(repeat (go_quiet (fail);try go_wp2));go_ret;exact ⟨by first|rfl|(simp [errW_none,errW_some] <;> rfl)|(simp [*,errW_none,errW_some] <;> rfl),by repeat (first|(with_reducible first|exact HI0.out|apply IsS102.alloc|apply IsS102.drewN|apply IsS102.drew|apply IsS102.set_0|apply IsS102.set_1|apply IsS102.set_2)|exact HI0.out),by repeat (first|(with_reducible first|exact HB.out|apply bal|apply bdN|apply bd1|refine below_set ?_ (IsS102.ge HI0.out))|exact HB.out),by repeat (first|(with_reducible first|exact HK.out|apply KeepBut.set_|apply keep_drewN|apply keep_drew|apply keep_alloc)|exact HK.out)⟩
end Go.Proofs.YtmeofdpmddjbgaaDoor.G
end
