/- Texts of this session's claim of ImagePuts, less what its theorem does not reach. No condition. -/
import Derived.BigQuiet
import Derived.Deep.QuietTactic
import Derived.Laws.BitsLemmas
import Derived.Laws.Externs
import Derived.Laws.IdiomCopy
import Derived.Lib.AppendStr
import Derived.Lib.Builder
import Derived.Lib.FrozenHead
import Derived.Lib.MakeNoZero
import Derived.Lib.OthersKept
import Derived.Lib.Slices
import Derived.Lib.Strings
import Derived.Lib.UnsafeStr
import Derived.Lib.Walk
import Derived.RegionTactic
import Derived.Shelf.Strings.Builder1
import Derived.Test.YtmeofdpmddjbgaaDoorProg
import Derived.WalkKit
import Derived.Test.YtmeofdpmddjbgaaDoorIP1
import Derived.Test.YtmeofdpmddjbgaaDoorIP11
section
namespace Go.Proofs.YtmeofdpmddjbgaaDoor.G
open Go.RowKit Go.Proofs.YtmeofdpmddjbgaaDoorW.PrintWords Go.Proofs.YtmeofdpmddjbgaaDoorW.PrintLast Go.Proofs.YtmeofdpmddjbgaaDoorW.PrintMore
attribute [local go_sem] max2_int min2_int max_two min_two max_three min_three max_four min_four   
set_option linter.unusedVariables false
set_option linter.unusedSimpArgs false
mutual
def barqueref09_together.l0:Nat→List ByteArray→Int→Option (Int)
 | 0,_,_=>none
 | k + 1,x0,x3=>if x3 < (x0.length:Int) then (if 0≤x3 then ((barqueref09_Path.f k (rdOf ByteArray.empty x0 x3)).bind fun t147=>(if t147=0 then (if x3 > 0 then (if 0≤(wrap64 (x3 - 1)) then (if (wrap64 (x3 - 1)) < (x0.length:Int) then ((barqueref09_Order.f k (rdOf ByteArray.empty x0 x3) (rdOf ByteArray.empty x0 (wrap64 (x3 - 1)))).bind fun t150=>(barqueref09_together.j1 k x0 x3 (decide (t150 < 0)))) else (none)) else (none)) else (barqueref09_together.j1 k x0 x3 false)) else (some t147))) else (none)) else (some 0)
def barqueref09_together.j1:Nat→List ByteArray→Int→Bool→Option (Int)
 | 0,_,_,_=>none
 | k + 1,x0,x3,x36=>if x36=true then (some 12) else (if x3 > 0 then (if 0≤x3 then (if x3 < (x0.length:Int) then (if 0≤(wrap64 (x3 - 1)) then (if (wrap64 (x3 - 1)) < (x0.length:Int) then (if (rdOf ByteArray.empty x0 x3).toList=(rdOf ByteArray.empty x0 (wrap64 (x3 - 1))).toList then (some 9) else ((barqueref09_Within.f (rdOf ByteArray.empty x0 x3) (rdOf ByteArray.empty x0 (wrap64 (x3 - 1)))).bind fun t155=>(if t155=true then (some 9) else (barqueref09_together.l0 k x0 (wrap64 (x3 + 1)))))) else (none)) else (none)) else (none)) else (none)) else (barqueref09_together.l0 k x0 (wrap64 (x3 + 1))))
end
def barqueref09_together.f (k:Nat) (l0:List ByteArray):Option (Int):=if (l0.length:Int) > 256 then (some 7) else (barqueref09_together.l0 k l0 0)
set_option maxHeartbeats 8000000 in
set_option maxRecDepth 100000 in
theorem barqueref09_together.calls (k:Nat) (A0:Option Addr) (c0:Nat) (l0:List ByteArray) (r:Int) (w:World) (hr0:Kd.C Kd.string w A0 l0.length l0) (hc0:l0.length≤c0) (h:barqueref09_together.f k l0=some r) :
  Calls Tryd.prog 52 #[.slice A0 l0.length c0] w fun e w'=>e=.returned (.int .i64 r)∧Below w.heap.size w w':=by
 have HR0:=Aside0.mk hr0;have HC0:=Aside0.mk hc0;clear hr0 hc0;have HB:=Aside0.mk (Below.refl w.heap.size w);have H:(if (l0.length:Int) > 256 then (some 7) else (barqueref09_together.l0 k l0 0))=some r:=h;clear h;by_cases c2:(l0.length:Int) > 256
 ·rw [if_pos c2] at H;have c2b0:decide (256 < (l0.length:Int))=true:=decide_eq_true c2;have c2b1:decide (256 < l0.length)=true:=decide_eq_true (by omega);clear c2;obtain rfl:=Option.some.inj H;go_enter Tryd.func52,Tryd.ntmps52;go_wp2;(repeat (go_quiet (fail);try go_wp2));go_ret;exact ⟨by first|rfl|(simp [errW_none,errW_some] <;> rfl)|(simp [*,errW_none,errW_some] <;> rfl),by repeat (first|(with_reducible first|exact HB.out|apply bal|apply bdN|apply bd1)|exact HB.out)⟩
 ·rw [if_neg c2] at H;have c2b0:decide (256 < (l0.length:Int))=false:=decide_eq_false c2;have c2b1:decide (256 < l0.length)=false:=decide_eq_false (by omega);clear c2;have H':=Aside0.mk H;clear H;go_enter Tryd.func52,Tryd.ntmps52;go_wp2;(repeat (go_quiet (fail);try go_wp2));go_loopg [3] k (fun kq v3 w'=>∃ (x3_1:Int),v3=.int .i64 x3_1∧Aside0 (barqueref09_together.l0 kq l0 x3_1=some r)∧Aside0 (kq≤k)∧Aside0 (Below w.heap.size w w'))
  case atStart=>exact ⟨(0),(by first|rfl|(simp;done)|(simp [*];done)),H',⟨Nat.le_refl _⟩,⟨by repeat (first|(with_reducible first|exact HB.out|apply bal|apply bdN|apply bd1)|exact HB.out)⟩⟩
  case round =>
   clear H';(try clear c2);(try clear c2b0);(try clear c2b1);(try clear p2);obtain ⟨x3_1,rfl,HA,HK1,HB⟩:=hrel
   cases gk with
   | zero=>exact absurd HA.out (by simp [barqueref09_together.l0])
   | succ k1 =>
    have H:=HA.out;clear HA;simp only [barqueref09_together.l0] at H;by_cases c3:x3_1 < (l0.length:Int)
    ·rw [if_pos c3] at H;have c3b0:decide (x3_1 < (l0.length:Int))=true:=decide_eq_true c3;clear c3;by_cases c4:0≤x3_1
     ·rw [if_pos c4] at H;have c4b0:decide (0≤x3_1)=true:=decide_eq_true c4;clear c4;replace H:=Option.bind_eq_some_iff.mp H;obtain ⟨t147,A50,H⟩:=H;replace H:(if t147=0 then (if x3_1 > 0 then (if 0≤(wrap64 (x3_1 - 1)) then (if (wrap64 (x3_1 - 1)) < (l0.length:Int) then ((barqueref09_Order.f k1 (rdOf ByteArray.empty l0 x3_1) (rdOf ByteArray.empty l0 (wrap64 (x3_1 - 1)))).bind fun t150=>(barqueref09_together.j1 k1 l0 x3_1 (decide (t150 < 0)))) else (none)) else (none)) else (barqueref09_together.j1 k1 l0 x3_1 false)) else (some t147))=some r:=H;have A5:=Aside0.mk A50;clear A50;by_cases c6:t147=0
      ·rw [if_pos c6] at H;have c6b0:(t147 == 0)=true:=beq_iff_eq.mpr c6;have c6b1:(t147 != 0)=false:=bne_eq_false_iff_eq.mpr c6;clear c6;have HC7:=Aside0.mk H;clear H;have p146:0≤(x3_1:Int):=of_decide_eq_true (by first|(with_reducible assumption)|assumption);have q146:x3_1 < (l0.length:Int):=of_decide_eq_true (by first|(with_reducible assumption)|assumption);obtain ⟨ad146,e146,hx146_0⟩:=Kd.at_string HR0.out x3_1 p146 q146;cases e146;replace hx146_0:=(HB.out.cell (World.block_lt_of_cell? w _ hx146_0)).trans hx146_0;replace p146:=eq_true p146;replace q146:=eq_true q146;go_upto_region 9 with (first|(go_at_call 73;(with_reducible refine (barqueref09_Path.calls k1 (rdOf ByteArray.empty l0 x3_1) t147 _ A5.out).mono ?_);rintro e w8 ⟨rfl,hb⟩;have n0_:=Aside0.mk (below_step (by repeat (first|(with_reducible first|exact HB.out|apply bal|apply bdN|apply bd1)|exact HB.out)) hb);clear HB;have HB:=n0_;clear n0_;(try clear hb);(try clear hb2);(try clear hk);(try clear hi)));(repeat (go_quiet (first|(go_at_call 73;(with_reducible refine (barqueref09_Path.calls k1 (rdOf ByteArray.empty l0 x3_1) t147 _ A5.out).mono ?_);rintro e w8 ⟨rfl,hb⟩;have n0_:=Aside0.mk (below_step (by repeat (first|(with_reducible first|exact HB.out|apply bal|apply bdN|apply bd1)|exact HB.out)) hb);clear HB;have HB:=n0_;clear n0_;(try clear hb);(try clear hb2);(try clear hk);(try clear hi)));go_upto_region 9 with (first|(go_at_call 73;(with_reducible refine (barqueref09_Path.calls k1 (rdOf ByteArray.empty l0 x3_1) t147 _ A5.out).mono ?_);rintro e w8 ⟨rfl,hb⟩;have n0_:=Aside0.mk (below_step (by repeat (first|(with_reducible first|exact HB.out|apply bal|apply bdN|apply bd1)|exact HB.out)) hb);clear HB;have HB:=n0_;clear n0_;(try clear hb);(try clear hb2);(try clear hk);(try clear hi)))));(try simp only [Act.put,List.setIfInBounds_toArray,List.set_cons_zero,List.set_cons_succ]);go_cut [36] (fun v36 wc=>∃ (kq:Nat) (x36_6:Bool),v36=.bool x36_6∧Aside0 (barqueref09_together.j1 kq l0 x3_1 x36_6=some r)∧Aside0 (kq≤k1)∧Aside0 (Below w.heap.size w wc))
       case first =>
        have H:=HC7.out;clear HC7;by_cases c9:x3_1 > 0
        ·rw [if_pos c9] at H;have c9b0:decide (0 < x3_1)=true:=decide_eq_true c9;clear c9;(first|rw [c9b0]|(simp only [i64_w,i32_w];rw [c9b0])|skip);obtain ⟨ji10,hji10⟩:∃ j_:Int,(wrap64 (x3_1 - 1))=j_:=⟨_,rfl⟩;(replace H:(if 0≤(ji10) then (if (ji10) < (l0.length:Int) then ((barqueref09_Order.f k1 (rdOf ByteArray.empty l0 x3_1) (rdOf ByteArray.empty l0 (ji10))).bind fun t150=>(barqueref09_together.j1 k1 l0 x3_1 (decide (t150 < 0)))) else (none)) else (none))=some r:=by first|(rw [hji10] at H;exact H)|(simp only [hji10] at H ⊢;exact H));have hji10w:(IntKind.i64.wrap (x3_1 - 1))=ji10:=(i64_w _).trans hji10;by_cases c11:0≤(ji10)
         ·rw [if_pos c11] at H;have c11b0:decide (0≤(ji10))=true:=decide_eq_true c11;clear c11;by_cases c12:(ji10) < (l0.length:Int)
          ·rw [if_pos c12] at H;have c12b0:decide ((ji10) < (l0.length:Int))=true:=decide_eq_true c12;clear c12;replace H:=Option.bind_eq_some_iff.mp H;obtain ⟨t150,A130,H⟩:=H;replace H:(barqueref09_together.j1 k1 l0 x3_1 (decide (t150 < 0)))=some r:=H;have A13:=Aside0.mk A130;clear A130;have H':=Aside0.mk H;clear H;have p148:0≤(x3_1:Int):=of_decide_eq_true (by first|(with_reducible assumption)|assumption);have q148:x3_1 < (l0.length:Int):=of_decide_eq_true (by first|(with_reducible assumption)|assumption);obtain ⟨ad148,e148,hx148_0⟩:=Kd.at_string HR0.out x3_1 p148 q148;obtain rfl:ad146=ad148:=(by injection e148);replace hx148_0:=(HB.out.cell (World.block_lt_of_cell? w _ hx148_0)).trans hx148_0;replace p148:=eq_true p148;replace q148:=eq_true q148;have p149:0≤((ji10):Int):=of_decide_eq_true (by first|(with_reducible assumption)|assumption);have q149:(ji10) < (l0.length:Int):=of_decide_eq_true (by first|(with_reducible assumption)|assumption);obtain ⟨ad149,e149,hx149_0⟩:=Kd.at_string HR0.out (ji10) p149 q149;obtain rfl:ad146=ad149:=(by injection e149);replace hx149_0:=(HB.out.cell (World.block_lt_of_cell? w _ hx149_0)).trans hx149_0;replace p149:=eq_true p149;replace q149:=eq_true q149;go_wp2_with (first|(go_at_call 65;(with_reducible refine (barqueref09_Order.calls k1 (rdOf ByteArray.empty l0 x3_1) (rdOf ByteArray.empty l0 (ji10)) t150 _ A13.out).mono ?_);rintro e w' ⟨rfl,⟨nd,rfl⟩⟩;(try first|exact ⟨rfl,_,World.drewN_drewN _ _ _⟩|exact ⟨rfl,_,Eq.trans (World.drewN_drewN _ _ _) (congrArg (World.drewN _) (Nat.add_assoc _ _ _))⟩)));(repeat (go_quiet (first|(go_at_call 65;(with_reducible refine (barqueref09_Order.calls k1 (rdOf ByteArray.empty l0 x3_1) (rdOf ByteArray.empty l0 (ji10)) t150 _ A13.out).mono ?_);rintro e w' ⟨rfl,⟨nd,rfl⟩⟩;(try first|exact ⟨rfl,_,World.drewN_drewN _ _ _⟩|exact ⟨rfl,_,Eq.trans (World.drewN_drewN _ _ _) (congrArg (World.drewN _) (Nat.add_assoc _ _ _))⟩)));try go_wp2_with (first|(go_at_call 65;(with_reducible refine (barqueref09_Order.calls k1 (rdOf ByteArray.empty l0 x3_1) (rdOf ByteArray.empty l0 (ji10)) t150 _ A13.out).mono ?_);rintro e w' ⟨rfl,⟨nd,rfl⟩⟩;(try first|exact ⟨rfl,_,World.drewN_drewN _ _ _⟩|exact ⟨rfl,_,Eq.trans (World.drewN_drewN _ _ _) (congrArg (World.drewN _) (Nat.add_assoc _ _ _))⟩)))));go_meet
           case rel=>exact ⟨_,(decide (t150 < 0)),(by first|rfl|(simp;done)|(simp [*];done)),H',⟨by have:=HK1.out;first|omega|exact Nat.le_refl _⟩,⟨by repeat (first|(with_reducible first|exact HB.out|apply bal|apply bdN|apply bd1)|exact HB.out)⟩⟩
          ·rw [if_neg c12] at H;exact absurd H (by simp)
         ·rw [if_neg c11] at H;exact absurd H (by simp)
        ·rw [if_neg c9] at H;have c9b0:decide (0 < x3_1)=false:=decide_eq_false c9;clear c9;(first|rw [c9b0]|(simp only [i64_w,i32_w];rw [c9b0])|skip);have H':=Aside0.mk H;clear H;go_wp2;(repeat (go_quiet (fail);try go_wp2));go_meet
         case rel=>exact ⟨_,(false),(by first|rfl|(simp;done)|(simp [*];done)),H',⟨by have:=HK1.out;first|omega|exact Nat.le_refl _⟩,⟨by repeat (first|(with_reducible first|exact HB.out|apply bal|apply bdN|apply bd1)|exact HB.out)⟩⟩
       case rest =>
        clear HC7;(try clear c1);(try clear p1);(try clear q1);(try clear hx1);(try clear c2);(try clear c2b0);(try clear c2b1);(try clear p2);(try clear c3);(try clear c3b0);(try clear c4);(try clear c4b0);(try clear c5);(try clear c6);(try clear c6b0);(try clear c6b1);(try clear p6);(try clear c9);(try clear c9b0);(try clear c11);(try clear c11b0);(try clear c12);(try clear c12b0);(try clear hx146_0);(try clear hx148_0);(try clear hx149_0);(try clear p146);(try clear p148);(try clear p149);(try clear p2);(try clear q146);(try clear q148);(try clear q149);obtain ⟨kq,x36_6,rfl,HA,HJ6,HB⟩:=hcut
        cases kq with
        | zero=>exact absurd HA.out (by simp [barqueref09_together.j1])
        | succ kj6 =>
         have H:=HA.out;clear HA;simp only [barqueref09_together.j1] at H;by_cases c14:x36_6=true
         ·subst c14;(have H1:(some 12)=some r:=by rw [if_pos rfl] at H;exact H);clear H;have H:=H1;clear H1;obtain rfl:=Option.some.inj H;go_wp2;(repeat (go_quiet (fail);try go_wp2));go_ret;exact ⟨by first|rfl|(simp [errW_none,errW_some] <;> rfl)|(simp [*,errW_none,errW_some] <;> rfl),by repeat (first|(with_reducible first|exact HB.out|apply bal|apply bdN|apply bd1)|exact HB.out)⟩
         ·replace c14:=Bool.eq_false_iff.mpr c14;subst c14;(have H1:(if x3_1 > 0 then (if 0≤x3_1 then (if x3_1 < (l0.length:Int) then (if 0≤(wrap64 (x3_1 - 1)) then (if (wrap64 (x3_1 - 1)) < (l0.length:Int) then (if (rdOf ByteArray.empty l0 x3_1).toList=(rdOf ByteArray.empty l0 (wrap64 (x3_1 - 1))).toList then (some 9) else ((barqueref09_Within.f (rdOf ByteArray.empty l0 x3_1) (rdOf ByteArray.empty l0 (wrap64 (x3_1 - 1)))).bind fun t155=>(if t155=true then (some 9) else (barqueref09_together.l0 kj6 l0 (wrap64 (x3_1 + 1)))))) else (none)) else (none)) else (none)) else (none)) else (barqueref09_together.l0 kj6 l0 (wrap64 (x3_1 + 1))))=some r:=by rw [if_neg (show ¬ (false=true) by decide)] at H;exact H);clear H;have H:=H1;clear H1;by_cases c15:x3_1 > 0
          ·rw [if_pos c15] at H;have c15b0:decide (0 < x3_1)=true:=decide_eq_true c15;clear c15;by_cases c16:0≤x3_1
           ·rw [if_pos c16] at H;have c16b0:decide (0≤x3_1)=true:=decide_eq_true c16;clear c16;by_cases c17:x3_1 < (l0.length:Int)
            ·rw [if_pos c17] at H;have c17b0:decide (x3_1 < (l0.length:Int))=true:=decide_eq_true c17;clear c17;obtain ⟨ji18,hji18⟩:∃ j_:Int,(wrap64 (x3_1 - 1))=j_:=⟨_,rfl⟩;(try (have hjq_:ji18=ji10:=hji18.symm.trans hji10;subst hjq_));(replace H:(if 0≤(ji18) then (if (ji18) < (l0.length:Int) then (if (rdOf ByteArray.empty l0 x3_1).toList=(rdOf ByteArray.empty l0 (ji18)).toList then (some 9) else ((barqueref09_Within.f (rdOf ByteArray.empty l0 x3_1) (rdOf ByteArray.empty l0 (ji18))).bind fun t155=>(if t155=true then (some 9) else (barqueref09_together.l0 kj6 l0 (wrap64 (x3_1 + 1)))))) else (none)) else (none))=some r:=by first|(rw [hji18] at H;exact H)|(simp only [hji18] at H ⊢;exact H));have hji18w:(IntKind.i64.wrap (x3_1 - 1))=ji18:=(i64_w _).trans hji18;by_cases c19:0≤(ji18)
             ·rw [if_pos c19] at H;have c19b0:decide (0≤(ji18))=true:=decide_eq_true c19;clear c19;by_cases c20:(ji18) < (l0.length:Int)
              ·rw [if_pos c20] at H;have c20b0:decide ((ji18) < (l0.length:Int))=true:=decide_eq_true c20;clear c20;by_cases c21:(rdOf ByteArray.empty l0 x3_1).toList=(rdOf ByteArray.empty l0 (ji18)).toList
               ·rw [if_pos c21] at H;have c21b0:((rdOf ByteArray.empty l0 x3_1).toList == (rdOf ByteArray.empty l0 (ji18)).toList)=true:=beq_iff_eq.mpr c21;have c21b1:((rdOf ByteArray.empty l0 x3_1).toList != (rdOf ByteArray.empty l0 (ji18)).toList)=false:=bne_eq_false_iff_eq.mpr c21;clear c21;obtain rfl:=Option.some.inj H;have p151:0≤(x3_1:Int):=of_decide_eq_true (by first|(with_reducible assumption)|assumption);have q151:x3_1 < (l0.length:Int):=of_decide_eq_true (by first|(with_reducible assumption)|assumption);obtain ⟨ad151,e151,hx151_0⟩:=Kd.at_string HR0.out x3_1 p151 q151;obtain rfl:ad146=ad151:=(by injection e151);replace hx151_0:=(HB.out.cell (World.block_lt_of_cell? w _ hx151_0)).trans hx151_0;replace p151:=eq_true p151;replace q151:=eq_true q151;have p152:0≤((ji18):Int):=of_decide_eq_true (by first|(with_reducible assumption)|assumption);have q152:(ji18) < (l0.length:Int):=of_decide_eq_true (by first|(with_reducible assumption)|assumption);obtain ⟨ad152,e152,hx152_0⟩:=Kd.at_string HR0.out (ji18) p152 q152;obtain rfl:ad146=ad152:=(by injection e152);replace hx152_0:=(HB.out.cell (World.block_lt_of_cell? w _ hx152_0)).trans hx152_0;replace p152:=eq_true p152;replace q152:=eq_true q152;go_wp2;(repeat (go_quiet (fail);try go_wp2));go_ret;exact ⟨by first|rfl|(simp [errW_none,errW_some] <;> rfl)|(simp only [← hji18];first|rfl|(simp [errW_none,errW_some] <;> rfl))|(simp [*,errW_none,errW_some] <;> rfl),by repeat (first|(with_reducible first|exact HB.out|apply bal|apply bdN|apply bd1)|exact HB.out)⟩
               ·rw [if_neg c21] at H;have c21b0:((rdOf ByteArray.empty l0 x3_1).toList == (rdOf ByteArray.empty l0 (ji18)).toList)=false:=beq_eq_false_iff_ne.mpr c21;have c21b1:((rdOf ByteArray.empty l0 x3_1).toList != (rdOf ByteArray.empty l0 (ji18)).toList)=true:=bne_iff_ne.mpr c21;replace H:=Option.bind_eq_some_iff.mp H;obtain ⟨t155,A220,H⟩:=H;replace H:(if t155=true then (some 9) else (barqueref09_together.l0 kj6 l0 (wrap64 (x3_1 + 1))))=some r:=H;have A22:=Aside0.mk A220;clear A220;by_cases c23:t155=true
                ·subst c23;(have H1:(some 9)=some r:=by rw [if_pos rfl] at H;exact H);clear H;have H:=H1;clear H1;obtain rfl:=Option.some.inj H;have p151:0≤(x3_1:Int):=of_decide_eq_true (by first|(with_reducible assumption)|assumption);have q151:x3_1 < (l0.length:Int):=of_decide_eq_true (by first|(with_reducible assumption)|assumption);obtain ⟨ad151,e151,hx151_0⟩:=Kd.at_string HR0.out x3_1 p151 q151;obtain rfl:ad146=ad151:=(by injection e151);replace hx151_0:=(HB.out.cell (World.block_lt_of_cell? w _ hx151_0)).trans hx151_0;replace p151:=eq_true p151;replace q151:=eq_true q151;have p152:0≤((ji18):Int):=of_decide_eq_true (by first|(with_reducible assumption)|assumption);have q152:(ji18) < (l0.length:Int):=of_decide_eq_true (by first|(with_reducible assumption)|assumption);obtain ⟨ad152,e152,hx152_0⟩:=Kd.at_string HR0.out (ji18) p152 q152;obtain rfl:ad146=ad152:=(by injection e152);replace hx152_0:=(HB.out.cell (World.block_lt_of_cell? w _ hx152_0)).trans hx152_0;replace p152:=eq_true p152;replace q152:=eq_true q152;have p153:0≤(x3_1:Int):=of_decide_eq_true (by first|(with_reducible assumption)|assumption);have q153:x3_1 < (l0.length:Int):=of_decide_eq_true (by first|(with_reducible assumption)|assumption);obtain ⟨ad153,e153,hx153_0⟩:=Kd.at_string HR0.out x3_1 p153 q153;obtain rfl:ad146=ad153:=(by injection e153);replace hx153_0:=(HB.out.cell (World.block_lt_of_cell? w _ hx153_0)).trans hx153_0;replace p153:=eq_true p153;replace q153:=eq_true q153;have p154:0≤((ji18):Int):=of_decide_eq_true (by first|(with_reducible assumption)|assumption);have q154:(ji18) < (l0.length:Int):=of_decide_eq_true (by first|(with_reducible assumption)|assumption);obtain ⟨ad154,e154,hx154_0⟩:=Kd.at_string HR0.out (ji18) p154 q154;obtain rfl:ad146=ad154:=(by injection e154);replace hx154_0:=(HB.out.cell (World.block_lt_of_cell? w _ hx154_0)).trans hx154_0;replace p154:=eq_true p154;replace q154:=eq_true q154;go_wp2_with (first|(go_at_call 40;(with_reducible refine (barqueref09_Within.calls (rdOf ByteArray.empty l0 x3_1) (rdOf ByteArray.empty l0 (ji18)) true _ A22.out).mono ?_);rintro e w' ⟨rfl,⟨nd,rfl⟩⟩;(try first|exact ⟨rfl,_,World.drewN_drewN _ _ _⟩|exact ⟨rfl,_,Eq.trans (World.drewN_drewN _ _ _) (congrArg (World.drewN _) (Nat.add_assoc _ _ _))⟩)));(repeat (go_quiet (first|(go_at_call 40;(with_reducible refine (barqueref09_Within.calls (rdOf ByteArray.empty l0 x3_1) (rdOf ByteArray.empty l0 (ji18)) true _ A22.out).mono ?_);rintro e w' ⟨rfl,⟨nd,rfl⟩⟩;(try first|exact ⟨rfl,_,World.drewN_drewN _ _ _⟩|exact ⟨rfl,_,Eq.trans (World.drewN_drewN _ _ _) (congrArg (World.drewN _) (Nat.add_assoc _ _ _))⟩)));try go_wp2_with (first|(go_at_call 40;(with_reducible refine (barqueref09_Within.calls (rdOf ByteArray.empty l0 x3_1) (rdOf ByteArray.empty l0 (ji18)) true _ A22.out).mono ?_);rintro e w' ⟨rfl,⟨nd,rfl⟩⟩;(try first|exact ⟨rfl,_,World.drewN_drewN _ _ _⟩|exact ⟨rfl,_,Eq.trans (World.drewN_drewN _ _ _) (congrArg (World.drewN _) (Nat.add_assoc _ _ _))⟩)))));go_ret;exact ⟨by first|rfl|(simp [errW_none,errW_some] <;> rfl)|(simp only [← hji18];first|rfl|(simp [errW_none,errW_some] <;> rfl))|(simp [*,errW_none,errW_some] <;> rfl),by repeat (first|(with_reducible first|exact HB.out|apply bal|apply bdN|apply bd1)|exact HB.out)⟩
                ·replace c23:=Bool.eq_false_iff.mpr c23;subst c23;(have H1:(barqueref09_together.l0 kj6 l0 (wrap64 (x3_1 + 1)))=some r:=by rw [if_neg (show ¬ (false=true) by decide)] at H;exact H);clear H;have H:=H1;clear H1;have H':=Aside0.mk H;clear H;have p151:0≤(x3_1:Int):=of_decide_eq_true (by first|(with_reducible assumption)|assumption);have q151:x3_1 < (l0.length:Int):=of_decide_eq_true (by first|(with_reducible assumption)|assumption);obtain ⟨ad151,e151,hx151_0⟩:=Kd.at_string HR0.out x3_1 p151 q151;obtain rfl:ad146=ad151:=(by injection e151);replace hx151_0:=(HB.out.cell (World.block_lt_of_cell? w _ hx151_0)).trans hx151_0;replace p151:=eq_true p151;replace q151:=eq_true q151;have p152:0≤((ji18):Int):=of_decide_eq_true (by first|(with_reducible assumption)|assumption);have q152:(ji18) < (l0.length:Int):=of_decide_eq_true (by first|(with_reducible assumption)|assumption);obtain ⟨ad152,e152,hx152_0⟩:=Kd.at_string HR0.out (ji18) p152 q152;obtain rfl:ad146=ad152:=(by injection e152);replace hx152_0:=(HB.out.cell (World.block_lt_of_cell? w _ hx152_0)).trans hx152_0;replace p152:=eq_true p152;replace q152:=eq_true q152;have p153:0≤(x3_1:Int):=of_decide_eq_true (by first|(with_reducible assumption)|assumption);have q153:x3_1 < (l0.length:Int):=of_decide_eq_true (by first|(with_reducible assumption)|assumption);obtain ⟨ad153,e153,hx153_0⟩:=Kd.at_string HR0.out x3_1 p153 q153;obtain rfl:ad146=ad153:=(by injection e153);replace hx153_0:=(HB.out.cell (World.block_lt_of_cell? w _ hx153_0)).trans hx153_0;replace p153:=eq_true p153;replace q153:=eq_true q153;have p154:0≤((ji18):Int):=of_decide_eq_true (by first|(with_reducible assumption)|assumption);have q154:(ji18) < (l0.length:Int):=of_decide_eq_true (by first|(with_reducible assumption)|assumption);obtain ⟨ad154,e154,hx154_0⟩:=Kd.at_string HR0.out (ji18) p154 q154;obtain rfl:ad146=ad154:=(by injection e154);replace hx154_0:=(HB.out.cell (World.block_lt_of_cell? w _ hx154_0)).trans hx154_0;replace p154:=eq_true p154;replace q154:=eq_true q154;go_wp2_with (first|(go_at_call 40;(with_reducible refine (barqueref09_Within.calls (rdOf ByteArray.empty l0 x3_1) (rdOf ByteArray.empty l0 (ji18)) false _ A22.out).mono ?_);rintro e w' ⟨rfl,⟨nd,rfl⟩⟩;(try first|exact ⟨rfl,_,World.drewN_drewN _ _ _⟩|exact ⟨rfl,_,Eq.trans (World.drewN_drewN _ _ _) (congrArg (World.drewN _) (Nat.add_assoc _ _ _))⟩)));(repeat (go_quiet (first|(go_at_call 40;(with_reducible refine (barqueref09_Within.calls (rdOf ByteArray.empty l0 x3_1) (rdOf ByteArray.empty l0 (ji18)) false _ A22.out).mono ?_);rintro e w' ⟨rfl,⟨nd,rfl⟩⟩;(try first|exact ⟨rfl,_,World.drewN_drewN _ _ _⟩|exact ⟨rfl,_,Eq.trans (World.drewN_drewN _ _ _) (congrArg (World.drewN _) (Nat.add_assoc _ _ _))⟩)));try go_wp2_with (first|(go_at_call 40;(with_reducible refine (barqueref09_Within.calls (rdOf ByteArray.empty l0 x3_1) (rdOf ByteArray.empty l0 (ji18)) false _ A22.out).mono ?_);rintro e w' ⟨rfl,⟨nd,rfl⟩⟩;(try first|exact ⟨rfl,_,World.drewN_drewN _ _ _⟩|exact ⟨rfl,_,Eq.trans (World.drewN_drewN _ _ _) (congrArg (World.drewN _) (Nat.add_assoc _ _ _))⟩)))));go_roundg kj6
                 case measure=>have:=HK1.out;have:=HJ6.out;omega
                 case rel=>exact ⟨(wrap64 (x3_1 + 1)),(by first|rfl|(simp;done)|(simp [*];done)),H',⟨by have:=HK1.out;have:=HJ6.out;omega⟩,⟨by repeat (first|(with_reducible first|exact HB.out|apply bal|apply bdN|apply bd1)|exact HB.out)⟩⟩
              ·rw [if_neg c20] at H;exact absurd H (by simp)
             ·rw [if_neg c19] at H;exact absurd H (by simp)
            ·rw [if_neg c17] at H;exact absurd H (by simp)
           ·rw [if_neg c16] at H;exact absurd H (by simp)
          ·rw [if_neg c15] at H;have c15b0:decide (0 < x3_1)=false:=decide_eq_false c15;clear c15;have H':=Aside0.mk H;clear H;go_wp2;(repeat (go_quiet (fail);try go_wp2));go_roundg kj6
           case measure=>have:=HK1.out;have:=HJ6.out;omega
           case rel=>exact ⟨(wrap64 (x3_1 + 1)),(by first|rfl|(simp;done)|(simp [*];done)),H',⟨by have:=HK1.out;have:=HJ6.out;omega⟩,⟨by repeat (first|(with_reducible first|exact HB.out|apply bal|apply bdN|apply bd1)|exact HB.out)⟩⟩
      ·rw [if_neg c6] at H;have c6b0:(t147 == 0)=false:=beq_eq_false_iff_ne.mpr c6;have c6b1:(t147 != 0)=true:=bne_iff_ne.mpr c6;obtain rfl:=Option.some.inj H;have p146:0≤(x3_1:Int):=of_decide_eq_true (by first|(with_reducible assumption)|assumption);have q146:x3_1 < (l0.length:Int):=of_decide_eq_true (by first|(with_reducible assumption)|assumption);obtain ⟨ad146,e146,hx146_0⟩:=Kd.at_string HR0.out x3_1 p146 q146;cases e146;replace hx146_0:=(HB.out.cell (World.block_lt_of_cell? w _ hx146_0)).trans hx146_0;replace p146:=eq_true p146;replace q146:=eq_true q146;go_wp2_with (first|(go_at_call 73;(with_reducible refine (barqueref09_Path.calls k1 (rdOf ByteArray.empty l0 x3_1) t147 _ A5.out).mono ?_);rintro e w24 ⟨rfl,hb⟩;have n0_:=Aside0.mk (below_step (by repeat (first|(with_reducible first|exact HB.out|apply bal|apply bdN|apply bd1)|exact HB.out)) hb);clear HB;have HB:=n0_;clear n0_;(try clear hb);(try clear hb2);(try clear hk);(try clear hi)));(repeat (go_quiet (first|(go_at_call 73;(with_reducible refine (barqueref09_Path.calls k1 (rdOf ByteArray.empty l0 x3_1) t147 _ A5.out).mono ?_);rintro e w24 ⟨rfl,hb⟩;have n0_:=Aside0.mk (below_step (by repeat (first|(with_reducible first|exact HB.out|apply bal|apply bdN|apply bd1)|exact HB.out)) hb);clear HB;have HB:=n0_;clear n0_;(try clear hb);(try clear hb2);(try clear hk);(try clear hi)));try go_wp2_with (first|(go_at_call 73;(with_reducible refine (barqueref09_Path.calls k1 (rdOf ByteArray.empty l0 x3_1) t147 _ A5.out).mono ?_);rintro e w24 ⟨rfl,hb⟩;have n0_:=Aside0.mk (below_step (by repeat (first|(with_reducible first|exact HB.out|apply bal|apply bdN|apply bd1)|exact HB.out)) hb);clear HB;have HB:=n0_;clear n0_;(try clear hb);(try clear hb2);(try clear hk);(try clear hi)))));go_ret;exact ⟨by first|rfl|(simp [errW_none,errW_some] <;> rfl)|(simp [*,errW_none,errW_some] <;> rfl),by repeat (first|(with_reducible first|exact HB.out|apply bal|apply bdN|apply bd1)|exact HB.out)⟩
     ·rw [if_neg c4] at H;exact absurd H (by simp)
    ·rw [if_neg c3] at H;have c3b0:decide (x3_1 < (l0.length:Int))=false:=decide_eq_false c3;clear c3;obtain rfl:=Option.some.inj H;go_wp2;(repeat (go_quiet (fail);try go_wp2));go_ret;exact ⟨by first|rfl|(simp [errW_none,errW_some] <;> rfl)|(simp [*,errW_none,errW_some] <;> rfl),by repeat (first|(with_reducible first|exact HB.out|apply bal|apply bdN|apply bd1)|exact HB.out)⟩
def tree_paths.l0:Nat→List ByteArray→List ByteArray→Int→Int→Option (Int)
 | 0,_,_,_,_=>none
 | k + 1,x0,x10,x11,x12=>if x12 < x11 then (if 0≤x12 then (if x12 < (x10.length:Int) then ((tree_Path.f k (rdOf ByteArray.empty x10 x12)).bind fun t115=>(if t115=0 then (if x12=0 then (tree_paths.l0 k x0 x10 x11 (wrap64 (x12 + 1))) else (if 0≤(wrap64 (x12 - 1)) then (if (wrap64 (x12 - 1)) < (x0.length:Int) then ((tree_Order.f k (rdOf ByteArray.empty x0 (wrap64 (x12 - 1))) (rdOf ByteArray.empty x10 x12)).bind fun t117=>(if t117 > 0 then (some 12) else (if t117=0 then (some 9) else ((tree_Within.f (rdOf ByteArray.empty x10 x12) (rdOf ByteArray.empty x0 (wrap64 (x12 - 1)))).bind fun t119=>(if t119=true then (some 9) else (tree_paths.l0 k x0 x10 x11 (wrap64 (x12 + 1)))))))) else (none)) else (none))) else (some t115))) else (none)) else (none)) else (some 0)
def tree_paths.f (k:Nat) (l0:List ByteArray):Option (Int):=if (l0.length:Int) > 256 then (some 7) else (tree_paths.l0 k l0 l0 (l0.length:Int) 0)
theorem tree_paths.mono_l:∀ k,(∀ y0 y1 y2 y3,LeO (tree_paths.l0 k y0 y1 y2 y3) (tree_paths.l0 (k + 1) y0 y1 y2 y3))
 | 0=>fun _ _ _ _ r h=>by simp [tree_paths.l0] at h
 | k + 1=>by
  have ih0:=tree_paths.mono_l k
  ·intro y0 y1 y2 y3
   unfold tree_paths.l0
   repeat' first
   | (with_reducible exact ih0 _ _ _ _)
   | (with_reducible exact tree_Order.mono _ _ _)
   | (with_reducible exact tree_Path.mono _ _)
   | (with_reducible exact LeO.refl _)
   | (with_reducible exact LeO.none _)
   | (with_reducible refine LeO.ite ?_ ?_)
   | (with_reducible refine LeO.bind ?_ (fun _=>?_))
   | exact ih0 _ _ _ _
   | exact tree_Order.mono _ _ _
   | exact tree_Path.mono _ _
   | exact LeO.none _
   | refine LeO.ite ?_ ?_
   | refine LeO.bind ?_ (fun _=>?_)
theorem tree_paths.mono:∀ a0 k,LeO (tree_paths.f k a0) (tree_paths.f (k + 1) a0):=by
 intro a0 k
 have ih0:=tree_paths.mono_l k
 unfold tree_paths.f
 repeat' first
   | (with_reducible exact ih0 _ _ _ _)
   | (with_reducible exact tree_Order.mono _ _ _)
   | (with_reducible exact tree_Path.mono _ _)
   | (with_reducible exact LeO.refl _)
   | (with_reducible exact LeO.none _)
   | (with_reducible refine LeO.ite ?_ ?_)
   | (with_reducible refine LeO.bind ?_ (fun _=>?_))
   | exact ih0 _ _ _ _
   | exact tree_Order.mono _ _ _
   | exact tree_Path.mono _ _
   | exact LeO.none _
   | refine LeO.ite ?_ ?_
   | refine LeO.bind ?_ (fun _=>?_)
set_option maxHeartbeats 8000000 in
set_option maxRecDepth 100000 in
theorem tree_paths.calls (k:Nat) (A0:Option Addr) (c0:Nat) (l0:List ByteArray) (r:Int) (w:World) (hr0:Kd.C Kd.string w A0 l0.length l0) (hc0:l0.length≤c0) (h:tree_paths.f k l0=some r) :
  Calls Tryd.prog 49 #[.slice A0 l0.length c0] w fun e w'=>e=.returned (.int .i64 r)∧Below w.heap.size w w':=by
 have HR0:=Aside0.mk hr0;have HC0:=Aside0.mk hc0;clear hr0 hc0;have HB:=Aside0.mk (Below.refl w.heap.size w);have H:(if (l0.length:Int) > 256 then (some 7) else (tree_paths.l0 k l0 l0 (l0.length:Int) 0))=some r:=h;clear h;by_cases c2:(l0.length:Int) > 256
 ·rw [if_pos c2] at H;have c2b0:decide (256 < (l0.length:Int))=true:=decide_eq_true c2;have c2b1:decide (256 < l0.length)=true:=decide_eq_true (by omega);clear c2;obtain rfl:=Option.some.inj H;go_enter Tryd.func49,Tryd.ntmps49;go_wp2;go_ret;exact ⟨by first|rfl|(simp [errW_none,errW_some] <;> rfl)|(simp [*,errW_none,errW_some] <;> rfl),by repeat (first|(with_reducible first|exact HB.out|apply bal|apply bdN|apply bd1)|exact HB.out)⟩
 ·rw [if_neg c2] at H;have c2b0:decide (256 < (l0.length:Int))=false:=decide_eq_false c2;have c2b1:decide (256 < l0.length)=false:=decide_eq_false (by omega);clear c2;have H':=Aside0.mk H;clear H;go_enter Tryd.func49,Tryd.ntmps49;go_wp2;go_loopg [12] k (fun kq v12 w'=>∃ (x12_1:Int),v12=.int .i64 x12_1∧Aside0 (tree_paths.l0 kq l0 l0 (l0.length:Int) x12_1=some r)∧Aside0 (kq≤k)∧Aside0 (Below w.heap.size w w'))
  case atStart=>exact ⟨(0),(by first|rfl|(simp;done)|(simp [*];done)),H',⟨Nat.le_refl _⟩,⟨by repeat (first|(with_reducible first|exact HB.out|apply bal|apply bdN|apply bd1)|exact HB.out)⟩⟩
  case round =>
   clear H';(try clear c2);(try clear c2b0);(try clear c2b1);(try clear p2);obtain ⟨x12_1,rfl,HA,HK1,HB⟩:=hrel
   cases gk with
   | zero=>exact absurd HA.out (by simp [tree_paths.l0])
   | succ k1 =>
    have H:=HA.out;clear HA;simp only [tree_paths.l0] at H;by_cases c3:x12_1 < (l0.length:Int)
    ·rw [if_pos c3] at H;have c3b0:decide (x12_1 < (l0.length:Int))=true:=decide_eq_true c3;clear c3;by_cases c4:0≤x12_1
     ·rw [if_pos c4] at H;have c4b0:decide (0≤x12_1)=true:=decide_eq_true c4;clear c4;by_cases c5:x12_1 < (l0.length:Int)
      ·rw [if_pos c5] at H;have c5b0:decide (x12_1 < (l0.length:Int))=true:=decide_eq_true c5;clear c5;replace H:=Option.bind_eq_some_iff.mp H;obtain ⟨t115,A60,H⟩:=H;replace H:(if t115=0 then (if x12_1=0 then (tree_paths.l0 k1 l0 l0 (l0.length:Int) (wrap64 (x12_1 + 1))) else (if 0≤(wrap64 (x12_1 - 1)) then (if (wrap64 (x12_1 - 1)) < (l0.length:Int) then ((tree_Order.f k1 (rdOf ByteArray.empty l0 (wrap64 (x12_1 - 1))) (rdOf ByteArray.empty l0 x12_1)).bind fun t117=>(if t117 > 0 then (some 12) else (if t117=0 then (some 9) else ((tree_Within.f (rdOf ByteArray.empty l0 x12_1) (rdOf ByteArray.empty l0 (wrap64 (x12_1 - 1)))).bind fun t119=>(if t119=true then (some 9) else (tree_paths.l0 k1 l0 l0 (l0.length:Int) (wrap64 (x12_1 + 1)))))))) else (none)) else (none))) else (some t115))=some r:=H;have A6:=Aside0.mk A60;clear A60;by_cases c7:t115=0
       ·rw [if_pos c7] at H;have c7b0:(t115 == 0)=true:=beq_iff_eq.mpr c7;have c7b1:(t115 != 0)=false:=bne_eq_false_iff_eq.mpr c7;clear c7;by_cases c8:x12_1=0
        ·rw [if_pos c8] at H;have c8b0:(x12_1 == 0)=true:=beq_iff_eq.mpr c8;have c8b1:(x12_1 != 0)=false:=bne_eq_false_iff_eq.mpr c8;clear c8;have H':=Aside0.mk H;clear H;have p114:0≤(x12_1:Int):=of_decide_eq_true (by first|(with_reducible assumption)|assumption);have q114:x12_1 < (l0.length:Int):=of_decide_eq_true (by first|(with_reducible assumption)|assumption);obtain ⟨ad114,e114,hx114_0⟩:=Kd.at_string HR0.out x12_1 p114 q114;cases e114;replace hx114_0:=(HB.out.cell (World.block_lt_of_cell? w _ hx114_0)).trans hx114_0;replace p114:=eq_true p114;replace q114:=eq_true q114;go_wp2_with (first|((with_reducible refine gate_callee (f:=71) rfl ?_);refine goesL_ (some 18) rfl rfl Tryd.func71 (by kernel_rfl) rfl #[.string (rdOf ByteArray.empty l0 x12_1)] rfl (by (try simp only [List.map_toArray,List.map_cons,List.map_nil]);first|done|rfl|(simp only [List.length_drop,List.length_take];rfl)) ?_;(with_reducible refine (tree_Path.calls k1 (rdOf ByteArray.empty l0 x12_1) t115 _ A6.out).mono ?_);rintro e w9 ⟨rfl,hb⟩;refine ⟨_,rfl,?_⟩;have n0_:=Aside0.mk (below_step (by repeat (first|(with_reducible first|exact HB.out|apply bal|apply bdN|apply bd1)|exact HB.out)) hb);clear HB;have HB:=n0_;clear n0_;(try clear hb);(try clear hb2);(try clear hk);(try clear hi)));go_roundg k1
         case measure=>have:=HK1.out;omega
         case rel=>exact ⟨(wrap64 (x12_1 + 1)),(by first|rfl|(simp;done)|(simp [*];done)),H',⟨by have:=HK1.out;omega⟩,⟨by repeat (first|(with_reducible first|exact HB.out|apply bal|apply bdN|apply bd1)|exact HB.out)⟩⟩
        ·rw [if_neg c8] at H;have c8b0:(x12_1 == 0)=false:=beq_eq_false_iff_ne.mpr c8;have c8b1:(x12_1 != 0)=true:=bne_iff_ne.mpr c8;obtain ⟨ji10,hji10⟩:∃ j_:Int,(wrap64 (x12_1 - 1))=j_:=⟨_,rfl⟩;(replace H:(if 0≤(ji10) then (if (ji10) < (l0.length:Int) then ((tree_Order.f k1 (rdOf ByteArray.empty l0 (ji10)) (rdOf ByteArray.empty l0 x12_1)).bind fun t117=>(if t117 > 0 then (some 12) else (if t117=0 then (some 9) else ((tree_Within.f (rdOf ByteArray.empty l0 x12_1) (rdOf ByteArray.empty l0 (ji10))).bind fun t119=>(if t119=true then (some 9) else (tree_paths.l0 k1 l0 l0 (l0.length:Int) (wrap64 (x12_1 + 1)))))))) else (none)) else (none))=some r:=by first|(rw [hji10] at H;exact H)|(simp only [hji10] at H ⊢;exact H));(try rw [hji10] at A6);have hji10w:(IntKind.i64.wrap (x12_1 - 1))=ji10:=(i64_w _).trans hji10;by_cases c11:0≤(ji10)
         ·rw [if_pos c11] at H;have c11b0:decide (0≤(ji10))=true:=decide_eq_true c11;clear c11;by_cases c12:(ji10) < (l0.length:Int)
          ·rw [if_pos c12] at H;have c12b0:decide ((ji10) < (l0.length:Int))=true:=decide_eq_true c12;clear c12;replace H:=Option.bind_eq_some_iff.mp H;obtain ⟨t117,A130,H⟩:=H;replace H:(if t117 > 0 then (some 12) else (if t117=0 then (some 9) else ((tree_Within.f (rdOf ByteArray.empty l0 x12_1) (rdOf ByteArray.empty l0 (ji10))).bind fun t119=>(if t119=true then (some 9) else (tree_paths.l0 k1 l0 l0 (l0.length:Int) (wrap64 (x12_1 + 1)))))))=some r:=H;have A13:=Aside0.mk A130;clear A130;by_cases c14:t117 > 0
           ·rw [if_pos c14] at H;have c14b0:decide (0 < t117)=true:=decide_eq_true c14;clear c14;obtain rfl:=Option.some.inj H;have p114:0≤(x12_1:Int):=of_decide_eq_true (by first|(with_reducible assumption)|assumption);have q114:x12_1 < (l0.length:Int):=of_decide_eq_true (by first|(with_reducible assumption)|assumption);obtain ⟨ad114,e114,hx114_0⟩:=Kd.at_string HR0.out x12_1 p114 q114;cases e114;replace hx114_0:=(HB.out.cell (World.block_lt_of_cell? w _ hx114_0)).trans hx114_0;replace p114:=eq_true p114;replace q114:=eq_true q114;go_wp2_with (first|((with_reducible refine gate_callee (f:=71) rfl ?_);refine goesL_ (some 18) rfl rfl Tryd.func71 (by kernel_rfl) rfl #[.string (rdOf ByteArray.empty l0 x12_1)] rfl (by (try simp only [List.map_toArray,List.map_cons,List.map_nil]);first|done|rfl|(simp only [List.length_drop,List.length_take];rfl)) ?_;(with_reducible refine (tree_Path.calls k1 (rdOf ByteArray.empty l0 x12_1) t115 _ A6.out).mono ?_);rintro e w15 ⟨rfl,hb⟩;refine ⟨_,rfl,?_⟩;have n0_:=Aside0.mk (below_step (by repeat (first|(with_reducible first|exact HB.out|apply bal|apply bdN|apply bd1)|exact HB.out)) hb);clear HB;have HB:=n0_;clear n0_;(try clear hb);(try clear hb2);(try clear hk);(try clear hi);have p116:0≤((ji10):Int):=of_decide_eq_true (by first|(with_reducible assumption)|assumption);have q116:(ji10) < (l0.length:Int):=of_decide_eq_true (by first|(with_reducible assumption)|assumption);obtain ⟨ad116,e116,hx116_0⟩:=Kd.at_string HR0.out (ji10) p116 q116;obtain rfl:ad114=ad116:=(by injection e116);replace hx116_0:=(HB.out.cell (World.block_lt_of_cell? w _ hx116_0)).trans hx116_0;replace p116:=eq_true p116;replace q116:=eq_true q116)|((with_reducible refine gate_callee (f:=63) rfl ?_);refine goesL_ (some 30) rfl rfl Tryd.func63 (by kernel_rfl) rfl #[.string (rdOf ByteArray.empty l0 (ji10)),.string (rdOf ByteArray.empty l0 x12_1)] rfl (by (try simp only [List.map_toArray,List.map_cons,List.map_nil]);first|done|(simp only [hji10];rfl)|rfl|(simp only [List.length_drop,List.length_take];rfl)) ?_;(with_reducible refine (tree_Order.calls k1 (rdOf ByteArray.empty l0 (ji10)) (rdOf ByteArray.empty l0 x12_1) t117 _ A13.out).mono ?_);rintro e w16 ⟨rfl,hb⟩;refine ⟨_,rfl,?_⟩;have n0_:=Aside0.mk (below_step (by repeat (first|(with_reducible first|exact HB.out|apply bal|apply bdN|apply bd1)|exact HB.out)) hb);clear HB;have HB:=n0_;clear n0_;(try clear hb);(try clear hb2);(try clear hk);(try clear hi)));go_ret;exact ⟨by first|rfl|(simp [errW_none,errW_some] <;> rfl)|(simp only [← hji10];first|rfl|(simp [errW_none,errW_some] <;> rfl))|(simp [*,errW_none,errW_some] <;> rfl),by repeat (first|(with_reducible first|exact HB.out|apply bal|apply bdN|apply bd1)|exact HB.out)⟩
           ·rw [if_neg c14] at H;have c14b0:decide (0 < t117)=false:=decide_eq_false c14;clear c14;by_cases c17:t117=0
            ·rw [if_pos c17] at H;have c17b0:(t117 == 0)=true:=beq_iff_eq.mpr c17;have c17b1:(t117 != 0)=false:=bne_eq_false_iff_eq.mpr c17;clear c17;obtain rfl:=Option.some.inj H;have p114:0≤(x12_1:Int):=of_decide_eq_true (by first|(with_reducible assumption)|assumption);have q114:x12_1 < (l0.length:Int):=of_decide_eq_true (by first|(with_reducible assumption)|assumption);obtain ⟨ad114,e114,hx114_0⟩:=Kd.at_string HR0.out x12_1 p114 q114;cases e114;replace hx114_0:=(HB.out.cell (World.block_lt_of_cell? w _ hx114_0)).trans hx114_0;replace p114:=eq_true p114;replace q114:=eq_true q114;go_wp2_with (first|((with_reducible refine gate_callee (f:=71) rfl ?_);refine goesL_ (some 18) rfl rfl Tryd.func71 (by kernel_rfl) rfl #[.string (rdOf ByteArray.empty l0 x12_1)] rfl (by (try simp only [List.map_toArray,List.map_cons,List.map_nil]);first|done|rfl|(simp only [List.length_drop,List.length_take];rfl)) ?_;(with_reducible refine (tree_Path.calls k1 (rdOf ByteArray.empty l0 x12_1) t115 _ A6.out).mono ?_);rintro e w18 ⟨rfl,hb⟩;refine ⟨_,rfl,?_⟩;have n0_:=Aside0.mk (below_step (by repeat (first|(with_reducible first|exact HB.out|apply bal|apply bdN|apply bd1)|exact HB.out)) hb);clear HB;have HB:=n0_;clear n0_;(try clear hb);(try clear hb2);(try clear hk);(try clear hi);have p116:0≤((ji10):Int):=of_decide_eq_true (by first|(with_reducible assumption)|assumption);have q116:(ji10) < (l0.length:Int):=of_decide_eq_true (by first|(with_reducible assumption)|assumption);obtain ⟨ad116,e116,hx116_0⟩:=Kd.at_string HR0.out (ji10) p116 q116;obtain rfl:ad114=ad116:=(by injection e116);replace hx116_0:=(HB.out.cell (World.block_lt_of_cell? w _ hx116_0)).trans hx116_0;replace p116:=eq_true p116;replace q116:=eq_true q116)|((with_reducible refine gate_callee (f:=63) rfl ?_);refine goesL_ (some 30) rfl rfl Tryd.func63 (by kernel_rfl) rfl #[.string (rdOf ByteArray.empty l0 (ji10)),.string (rdOf ByteArray.empty l0 x12_1)] rfl (by (try simp only [List.map_toArray,List.map_cons,List.map_nil]);first|done|(simp only [hji10];rfl)|rfl|(simp only [List.length_drop,List.length_take];rfl)) ?_;(with_reducible refine (tree_Order.calls k1 (rdOf ByteArray.empty l0 (ji10)) (rdOf ByteArray.empty l0 x12_1) t117 _ A13.out).mono ?_);rintro e w19 ⟨rfl,hb⟩;refine ⟨_,rfl,?_⟩;have n0_:=Aside0.mk (below_step (by repeat (first|(with_reducible first|exact HB.out|apply bal|apply bdN|apply bd1)|exact HB.out)) hb);clear HB;have HB:=n0_;clear n0_;(try clear hb);(try clear hb2);(try clear hk);(try clear hi)));go_ret;exact ⟨by first|rfl|(simp [errW_none,errW_some] <;> rfl)|(simp only [← hji10];first|rfl|(simp [errW_none,errW_some] <;> rfl))|(simp [*,errW_none,errW_some] <;> rfl),by repeat (first|(with_reducible first|exact HB.out|apply bal|apply bdN|apply bd1)|exact HB.out)⟩
            ·rw [if_neg c17] at H;have c17b0:(t117 == 0)=false:=beq_eq_false_iff_ne.mpr c17;have c17b1:(t117 != 0)=true:=bne_iff_ne.mpr c17;replace H:=Option.bind_eq_some_iff.mp H;obtain ⟨t119,A200,H⟩:=H;replace H:(if t119=true then (some 9) else (tree_paths.l0 k1 l0 l0 (l0.length:Int) (wrap64 (x12_1 + 1))))=some r:=H;have A20:=Aside0.mk A200;clear A200;by_cases c21:t119=true
             ·subst c21;(have H1:(some 9)=some r:=by rw [if_pos rfl] at H;exact H);clear H;have H:=H1;clear H1;obtain rfl:=Option.some.inj H;have p114:0≤(x12_1:Int):=of_decide_eq_true (by first|(with_reducible assumption)|assumption);have q114:x12_1 < (l0.length:Int):=of_decide_eq_true (by first|(with_reducible assumption)|assumption);obtain ⟨ad114,e114,hx114_0⟩:=Kd.at_string HR0.out x12_1 p114 q114;cases e114;replace hx114_0:=(HB.out.cell (World.block_lt_of_cell? w _ hx114_0)).trans hx114_0;replace p114:=eq_true p114;replace q114:=eq_true q114;go_wp2_with (first|((with_reducible refine gate_callee (f:=71) rfl ?_);refine goesL_ (some 18) rfl rfl Tryd.func71 (by kernel_rfl) rfl #[.string (rdOf ByteArray.empty l0 x12_1)] rfl (by (try simp only [List.map_toArray,List.map_cons,List.map_nil]);first|done|rfl|(simp only [List.length_drop,List.length_take];rfl)) ?_;(with_reducible refine (tree_Path.calls k1 (rdOf ByteArray.empty l0 x12_1) t115 _ A6.out).mono ?_);rintro e w22 ⟨rfl,hb⟩;refine ⟨_,rfl,?_⟩;have n0_:=Aside0.mk (below_step (by repeat (first|(with_reducible first|exact HB.out|apply bal|apply bdN|apply bd1)|exact HB.out)) hb);clear HB;have HB:=n0_;clear n0_;(try clear hb);(try clear hb2);(try clear hk);(try clear hi);have p116:0≤((ji10):Int):=of_decide_eq_true (by first|(with_reducible assumption)|assumption);have q116:(ji10) < (l0.length:Int):=of_decide_eq_true (by first|(with_reducible assumption)|assumption);obtain ⟨ad116,e116,hx116_0⟩:=Kd.at_string HR0.out (ji10) p116 q116;obtain rfl:ad114=ad116:=(by injection e116);replace hx116_0:=(HB.out.cell (World.block_lt_of_cell? w _ hx116_0)).trans hx116_0;replace p116:=eq_true p116;replace q116:=eq_true q116)|((with_reducible refine gate_callee (f:=63) rfl ?_);refine goesL_ (some 30) rfl rfl Tryd.func63 (by kernel_rfl) rfl #[.string (rdOf ByteArray.empty l0 (ji10)),.string (rdOf ByteArray.empty l0 x12_1)] rfl (by (try simp only [List.map_toArray,List.map_cons,List.map_nil]);first|done|(simp only [hji10];rfl)|rfl|(simp only [List.length_drop,List.length_take];rfl)) ?_;(with_reducible refine (tree_Order.calls k1 (rdOf ByteArray.empty l0 (ji10)) (rdOf ByteArray.empty l0 x12_1) t117 _ A13.out).mono ?_);rintro e w23 ⟨rfl,hb⟩;refine ⟨_,rfl,?_⟩;have n0_:=Aside0.mk (below_step (by repeat (first|(with_reducible first|exact HB.out|apply bal|apply bdN|apply bd1)|exact HB.out)) hb);clear HB;have HB:=n0_;clear n0_;(try clear hb);(try clear hb2);(try clear hk);(try clear hi);have p118:0≤((ji10):Int):=of_decide_eq_true (by first|(with_reducible assumption)|assumption);have q118:(ji10) < (l0.length:Int):=of_decide_eq_true (by first|(with_reducible assumption)|assumption);obtain ⟨ad118,e118,hx118_0⟩:=Kd.at_string HR0.out (ji10) p118 q118;obtain rfl:ad114=ad118:=(by injection e118);replace hx118_0:=(HB.out.cell (World.block_lt_of_cell? w _ hx118_0)).trans hx118_0;replace p118:=eq_true p118;replace q118:=eq_true q118)|((with_reducible refine gate_callee (f:=39) rfl ?_);refine goesL_ (some 43) rfl rfl Tryd.func39 (by kernel_rfl) rfl #[.string (rdOf ByteArray.empty l0 x12_1),.string (rdOf ByteArray.empty l0 (ji10))] rfl (by (try simp only [List.map_toArray,List.map_cons,List.map_nil]);first|done|(simp only [hji10];rfl)|rfl|(simp only [List.length_drop,List.length_take];rfl)) ?_;(with_reducible refine (tree_Within.calls (rdOf ByteArray.empty l0 x12_1) (rdOf ByteArray.empty l0 (ji10)) true _ A20.out).mono ?_);rintro e w' ⟨rfl,⟨nd,rfl⟩⟩;refine ⟨_,rfl,?_⟩));go_ret;exact ⟨by first|rfl|(simp [errW_none,errW_some] <;> rfl)|(simp only [← hji10];first|rfl|(simp [errW_none,errW_some] <;> rfl))|(simp [*,errW_none,errW_some] <;> rfl),by repeat (first|(with_reducible first|exact HB.out|apply bal|apply bdN|apply bd1)|exact HB.out)⟩
             ·replace c21:=Bool.eq_false_iff.mpr c21;subst c21;(have H1:(tree_paths.l0 k1 l0 l0 (l0.length:Int) (wrap64 (x12_1 + 1)))=some r:=by rw [if_neg (show ¬ (false=true) by decide)] at H;exact H);clear H;have H:=H1;clear H1;have H':=Aside0.mk H;clear H;have p114:0≤(x12_1:Int):=of_decide_eq_true (by first|(with_reducible assumption)|assumption);have q114:x12_1 < (l0.length:Int):=of_decide_eq_true (by first|(with_reducible assumption)|assumption);obtain ⟨ad114,e114,hx114_0⟩:=Kd.at_string HR0.out x12_1 p114 q114;cases e114;replace hx114_0:=(HB.out.cell (World.block_lt_of_cell? w _ hx114_0)).trans hx114_0;replace p114:=eq_true p114;replace q114:=eq_true q114;go_wp2_with (first|((with_reducible refine gate_callee (f:=71) rfl ?_);refine goesL_ (some 18) rfl rfl Tryd.func71 (by kernel_rfl) rfl #[.string (rdOf ByteArray.empty l0 x12_1)] rfl (by (try simp only [List.map_toArray,List.map_cons,List.map_nil]);first|done|rfl|(simp only [List.length_drop,List.length_take];rfl)) ?_;(with_reducible refine (tree_Path.calls k1 (rdOf ByteArray.empty l0 x12_1) t115 _ A6.out).mono ?_);rintro e w24 ⟨rfl,hb⟩;refine ⟨_,rfl,?_⟩;have n0_:=Aside0.mk (below_step (by repeat (first|(with_reducible first|exact HB.out|apply bal|apply bdN|apply bd1)|exact HB.out)) hb);clear HB;have HB:=n0_;clear n0_;(try clear hb);(try clear hb2);(try clear hk);(try clear hi);have p116:0≤((ji10):Int):=of_decide_eq_true (by first|(with_reducible assumption)|assumption);have q116:(ji10) < (l0.length:Int):=of_decide_eq_true (by first|(with_reducible assumption)|assumption);obtain ⟨ad116,e116,hx116_0⟩:=Kd.at_string HR0.out (ji10) p116 q116;obtain rfl:ad114=ad116:=(by injection e116);replace hx116_0:=(HB.out.cell (World.block_lt_of_cell? w _ hx116_0)).trans hx116_0;replace p116:=eq_true p116;replace q116:=eq_true q116)|((with_reducible refine gate_callee (f:=63) rfl ?_);refine goesL_ (some 30) rfl rfl Tryd.func63 (by kernel_rfl) rfl #[.string (rdOf ByteArray.empty l0 (ji10)),.string (rdOf ByteArray.empty l0 x12_1)] rfl (by (try simp only [List.map_toArray,List.map_cons,List.map_nil]);first|done|(simp only [hji10];rfl)|rfl|(simp only [List.length_drop,List.length_take];rfl)) ?_;(with_reducible refine (tree_Order.calls k1 (rdOf ByteArray.empty l0 (ji10)) (rdOf ByteArray.empty l0 x12_1) t117 _ A13.out).mono ?_);rintro e w25 ⟨rfl,hb⟩;refine ⟨_,rfl,?_⟩;have n0_:=Aside0.mk (below_step (by repeat (first|(with_reducible first|exact HB.out|apply bal|apply bdN|apply bd1)|exact HB.out)) hb);clear HB;have HB:=n0_;clear n0_;(try clear hb);(try clear hb2);(try clear hk);(try clear hi);have p118:0≤((ji10):Int):=of_decide_eq_true (by first|(with_reducible assumption)|assumption);have q118:(ji10) < (l0.length:Int):=of_decide_eq_true (by first|(with_reducible assumption)|assumption);obtain ⟨ad118,e118,hx118_0⟩:=Kd.at_string HR0.out (ji10) p118 q118;obtain rfl:ad114=ad118:=(by injection e118);replace hx118_0:=(HB.out.cell (World.block_lt_of_cell? w _ hx118_0)).trans hx118_0;replace p118:=eq_true p118;replace q118:=eq_true q118)|((with_reducible refine gate_callee (f:=39) rfl ?_);refine goesL_ (some 43) rfl rfl Tryd.func39 (by kernel_rfl) rfl #[.string (rdOf ByteArray.empty l0 x12_1),.string (rdOf ByteArray.empty l0 (ji10))] rfl (by (try simp only [List.map_toArray,List.map_cons,List.map_nil]);first|done|(simp only [hji10];rfl)|rfl|(simp only [List.length_drop,List.length_take];rfl)) ?_;(with_reducible refine (tree_Within.calls (rdOf ByteArray.empty l0 x12_1) (rdOf ByteArray.empty l0 (ji10)) false _ A20.out).mono ?_);rintro e w' ⟨rfl,⟨nd,rfl⟩⟩;refine ⟨_,rfl,?_⟩));go_roundg k1
              case measure=>have:=HK1.out;omega
              case rel=>exact ⟨(wrap64 (x12_1 + 1)),(by first|rfl|(simp;done)|(simp [*];done)),H',⟨by have:=HK1.out;omega⟩,⟨by repeat (first|(with_reducible first|exact HB.out|apply bal|apply bdN|apply bd1)|exact HB.out)⟩⟩
          ·rw [if_neg c12] at H;exact absurd H (by simp)
         ·rw [if_neg c11] at H;exact absurd H (by simp)
       ·rw [if_neg c7] at H;have c7b0:(t115 == 0)=false:=beq_eq_false_iff_ne.mpr c7;have c7b1:(t115 != 0)=true:=bne_iff_ne.mpr c7;obtain rfl:=Option.some.inj H;have p114:0≤(x12_1:Int):=of_decide_eq_true (by first|(with_reducible assumption)|assumption);have q114:x12_1 < (l0.length:Int):=of_decide_eq_true (by first|(with_reducible assumption)|assumption);obtain ⟨ad114,e114,hx114_0⟩:=Kd.at_string HR0.out x12_1 p114 q114;cases e114;replace hx114_0:=(HB.out.cell (World.block_lt_of_cell? w _ hx114_0)).trans hx114_0;replace p114:=eq_true p114;replace q114:=eq_true q114;go_wp2_with (first|((with_reducible refine gate_callee (f:=71) rfl ?_);refine goesL_ (some 18) rfl rfl Tryd.func71 (by kernel_rfl) rfl #[.string (rdOf ByteArray.empty l0 x12_1)] rfl (by (try simp only [List.map_toArray,List.map_cons,List.map_nil]);first|done|rfl|(simp only [List.length_drop,List.length_take];rfl)) ?_;(with_reducible refine (tree_Path.calls k1 (rdOf ByteArray.empty l0 x12_1) t115 _ A6.out).mono ?_);rintro e w26 ⟨rfl,hb⟩;refine ⟨_,rfl,?_⟩;have n0_:=Aside0.mk (below_step (by repeat (first|(with_reducible first|exact HB.out|apply bal|apply bdN|apply bd1)|exact HB.out)) hb);clear HB;have HB:=n0_;clear n0_;(try clear hb);(try clear hb2);(try clear hk);(try clear hi)));go_ret;exact ⟨by first|rfl|(simp [errW_none,errW_some] <;> rfl)|(simp [*,errW_none,errW_some] <;> rfl),by repeat (first|(with_reducible first|exact HB.out|apply bal|apply bdN|apply bd1)|exact HB.out)⟩
      ·rw [if_neg c5] at H;exact absurd H (by simp)
     ·rw [if_neg c4] at H;exact absurd H (by simp)
    ·rw [if_neg c3] at H;have c3b0:decide (x12_1 < (l0.length:Int))=false:=decide_eq_false c3;clear c3;obtain rfl:=Option.some.inj H;go_wp2;go_ret;exact ⟨by first|rfl|(simp [errW_none,errW_some] <;> rfl)|(simp [*,errW_none,errW_some] <;> rfl),by repeat (first|(with_reducible first|exact HB.out|apply bal|apply bdN|apply bd1)|exact HB.out)⟩
end Go.Proofs.YtmeofdpmddjbgaaDoor.G
end
section
namespace Go.Proofs.YtmeofdpmddjbgaaDoor.G
open Go.RowKit Go.Proofs.YtmeofdpmddjbgaaDoorW.PrintWords Go.Proofs.YtmeofdpmddjbgaaDoorW.PrintLast Go.Proofs.YtmeofdpmddjbgaaDoorW.PrintMore
set_option linter.unusedVariables false
set_option linter.unusedSimpArgs false
def togE:Option ByteArray→List ByteArray→Int
 | _,[]=>0
 | p,s :: l=>if pathE s=0 then match p with
   | none=>togE (some s) l
   | some q=>if 0 < cmpL q.data.toList s.data.toList then 12 else if q=s then 9 else if withinB s.data.toList q.data.toList then 9 else togE (some s) l
  else pathE s
theorem togE_cons (p:Option ByteArray) (s:ByteArray) (l:List ByteArray):togE p (s :: l)=if pathE s=0 then (match p with
   | none=>togE (some s) l
   | some q=>if 0 < cmpL q.data.toList s.data.toList then 12 else if q=s then 9 else if withinB s.data.toList q.data.toList then 9 else togE (some s) l)
  else pathE s:=by
 cases p <;> simp only [togE]
def pathsE (l:List ByteArray):Int:=if 256 < l.length then 7 else togE none l
def prevO (l:List ByteArray) (i:Nat):Option ByteArray:=if i=0 then none else l[i - 1]?
theorem ba_ext {a b:ByteArray} (h:a.data.toList=b.data.toList):a=b:=by
 obtain ⟨a⟩:=a
 obtain ⟨b⟩:=b
 exact congrArg ByteArray.mk (Array.toList_inj.1 h)
theorem prevO_succ (l:List ByteArray) (i:Nat) (h:i < l.length):prevO l (i + 1)=some (l[i]'h):=by
 simp [prevO,h]
theorem paths_l0 (l:List ByteArray) (hl:l.length≤4294967296):∀ (d i:Nat),l.length - i=d→i≤l.length→(∀ q,prevO l i=some q→pathE q=0) →
  Ev (fun k=>tree_paths.l0 k l l l.length i) (togE (prevO l i) (l.drop i)):=by
 intro d
 induction d with
 | zero =>
  intro i hd hi hq
  have e:i=l.length:=by omega
  subst e
  apply Ev.step
  ·intro k;rw [tree_paths.l0]
  have c1:¬ ((l.length:Int) < (l.length:Int)):=by omega
  simp only [c1,↓reduceIte]
  rw [List.drop_eq_nil_of_le (Nat.le_refl _)]
  cases prevO l l.length <;> exact Ev.now _
 | succ d ih =>
  intro i hd hi hq
  have hlt:i < l.length:=by omega
  apply Ev.step
  ·intro k;rw [tree_paths.l0]
  have c1:((i:Int) < (l.length:Int)):=by omega
  have c2:(0:Int)≤(i:Int):=by omega
  have hw:wrap64 ((i:Int) + 1)=((i + 1:Nat):Int):=by rw [w64_ (by omega) (by omega)];omega
  have hnext:=ih (i + 1) (by omega) (by omega)
  rw [prevO_succ l i hlt] at hnext
  simp only [c1,c2,↓reduceIte,rdOf_nat _ l i hlt,hw]
  refine Ev.bind (path_ev _) ?_
  rw [List.drop_eq_getElem_cons hlt,togE_cons]
  by_cases hp:pathE (l[i]'hlt)=0
  ·have hsz:=pathE_size _ hp
   have hn:=hnext (fun q e=>by cases e;exact hp)
   simp only [hp,↓reduceIte]
   by_cases h0:i=0
   ·have c3:((i:Int)=0):=by omega
    have hpr:prevO l i=none:=by unfold prevO;rw [if_pos h0]
    simp only [c3,hpr,↓reduceIte]
    exact hn
   ·have c3:¬ ((i:Int)=0):=by omega
    have hi1:i - 1 < l.length:=by omega
    have hpr:prevO l i=some (l[i - 1]'hi1):=by unfold prevO;rw [if_neg h0,List.getElem?_eq_getElem hi1]
    have hqsz:=pathE_size _ (hq _ hpr)
    have hw1:wrap64 ((i:Int) - 1)=((i - 1:Nat):Int):=by rw [w64_ (by omega) (by omega)];omega
    have c4:(0:Int)≤((i - 1:Nat):Int):=by omega
    have c5:((i - 1:Nat):Int) < (l.length:Int):=by omega
    rw [hw1]
    simp only [c3,c4,c5,hpr,↓reduceIte,rdOf_nat _ l (i - 1) hi1,within_f,Option.bind_some]
    refine Ev.bind (order_ev _ _ (by omega) (by omega)) ?_
    obtain ⟨h1,h2,h3⟩:=ordV_cmp (l[i - 1]'hi1).data.toList (l[i]'hlt).data.toList
    by_cases g1:0 < cmpL (l[i - 1]'hi1).data.toList (l[i]'hlt).data.toList
    ·have g1':ordV (l[i - 1]'hi1).data.toList (l[i]'hlt).data.toList > 0:=h3.2 g1
     simp only [g1,g1',↓reduceIte]
     exact Ev.now _
    ·have g1':¬ ordV (l[i - 1]'hi1).data.toList (l[i]'hlt).data.toList > 0:=fun e=>g1 (h3.1 e)
     simp only [g1,g1',↓reduceIte]
     by_cases g2:l[i - 1]'hi1=l[i]'hlt
     ·have g2':ordV (l[i - 1]'hi1).data.toList (l[i]'hlt).data.toList=0:=h2.2 ((cmpL_eq _ _).2 (by rw [g2]))
      simp only [g2',↓reduceIte]
      rw [if_pos g2]
      exact Ev.now _
     ·have g2':¬ ordV (l[i - 1]'hi1).data.toList (l[i]'hlt).data.toList=0:=fun e=>g2 (ba_ext ((cmpL_eq _ _).1 (h2.1 e)))
      simp only [g2',↓reduceIte]
      rw [if_neg g2]
      cases withinB (l[i]'hlt).data.toList (l[i - 1]'hi1).data.toList with
      | true=>exact Ev.now _
      | false=>exact hn
  ·simp only [hp,↓reduceIte]
   exact Ev.now _
theorem paths_ev (l:List ByteArray) (hl:l.length≤4294967296):Ev (fun k=>tree_paths.f k l) (pathsE l):=by
 unfold tree_paths.f pathsE
 by_cases h:256 < l.length
 ·have c1:(l.length:Int) > 256:=by omega
  simp only [c1,h,↓reduceIte]
  exact Ev.now _
 ·have c1:¬ ((l.length:Int) > 256):=by omega
  simp only [c1,h,↓reduceIte]
  have h:=paths_l0 l hl l.length 0 (by omega) (by omega) (fun q e=>by cases e)
  simpa [prevO] using h
theorem together_l0 (l:List ByteArray) (hl:l.length≤4294967296):∀ (d i:Nat),l.length - i=d→i≤l.length→(∀ q,prevO l i=some q→pathE q=0) →
  Ev (fun k=>barqueref09_together.l0 k l i) (togE (prevO l i) (l.drop i)):=by
 intro d
 induction d with
 | zero =>
  intro i hd hi hq
  have e:i=l.length:=by omega
  subst e
  apply Ev.step
  ·intro k;rw [barqueref09_together.l0]
  have c1:¬ ((l.length:Int) < (l.length:Int)):=by omega
  simp only [c1,↓reduceIte]
  rw [List.drop_eq_nil_of_le (Nat.le_refl _)]
  cases prevO l l.length <;> exact Ev.now _
 | succ d ih =>
  intro i hd hi hq
  have hlt:i < l.length:=by omega
  apply Ev.step
  ·intro k;rw [barqueref09_together.l0]
  have c1:((i:Int) < (l.length:Int)):=by omega
  have c2:(0:Int)≤(i:Int):=by omega
  have hw:wrap64 ((i:Int) + 1)=((i + 1:Nat):Int):=by rw [w64_ (by omega) (by omega)];omega
  have hnext:=ih (i + 1) (by omega) (by omega)
  rw [prevO_succ l i hlt] at hnext
  simp only [c1,c2,↓reduceIte,rdOf_nat _ l i hlt]
  refine Ev.bind (refpath_ev _) ?_
  rw [List.drop_eq_getElem_cons hlt,togE_cons]
  by_cases hp:pathE (l[i]'hlt)=0
  ·have hsz:=pathE_size _ hp
   have hn:=hnext (fun q e=>by cases e;exact hp)
   simp only [hp,↓reduceIte]
   by_cases h0:i=0
   ·have c3:¬ ((i:Int) > 0):=by omega
    have hpr:prevO l i=none:=by unfold prevO;rw [if_pos h0]
    simp only [c3,hpr,↓reduceIte]
    apply Ev.step
    ·intro k;rw [barqueref09_together.j1]
    simp only [Bool.false_eq_true,c3,↓reduceIte,hw]
    exact hn
   ·have c3:((i:Int) > 0):=by omega
    have hi1:i - 1 < l.length:=by omega
    have hpr:prevO l i=some (l[i - 1]'hi1):=by unfold prevO;rw [if_neg h0,List.getElem?_eq_getElem hi1]
    have hqsz:=pathE_size _ (hq _ hpr)
    have hw1:wrap64 ((i:Int) - 1)=((i - 1:Nat):Int):=by rw [w64_ (by omega) (by omega)];omega
    have c4:(0:Int)≤((i - 1:Nat):Int):=by omega
    have c5:((i - 1:Nat):Int) < (l.length:Int):=by omega
    simp only [c3,hw1,c4,c5,hpr,↓reduceIte,rdOf_nat _ l (i - 1) hi1]
    refine Ev.bind (reforder_ev _ _ (by omega) (by omega)) ?_
    apply Ev.step
    ·intro k;rw [barqueref09_together.j1]
    have hneg:=cmpL_neg (l[i - 1]'hi1).data.toList (l[i]'hlt).data.toList
    by_cases g1:0 < cmpL (l[i - 1]'hi1).data.toList (l[i]'hlt).data.toList
    ·have g1':decide (cmpL (l[i]'hlt).data.toList (l[i - 1]'hi1).data.toList < 0)=true:=by rw [decide_eq_true_eq,hneg];omega
     simp only [g1,g1',↓reduceIte]
     exact Ev.now _
    ·have g1':decide (cmpL (l[i]'hlt).data.toList (l[i - 1]'hi1).data.toList < 0)=false:=by rw [decide_eq_false_iff_not,hneg];omega
     simp only [g1,g1',Bool.false_eq_true,c1,c2,c3,hw1,c4,c5,↓reduceIte,rdOf_nat _ l i hlt,rdOf_nat _ l (i - 1) hi1,toList_data_]
     rw [refwithin_f _ _ (by omega)]
     simp only [Option.bind_some,hw]
     by_cases g2:l[i - 1]'hi1=l[i]'hlt
     ·have g2':(l[i]'hlt).data.toList=(l[i - 1]'hi1).data.toList:=by rw [g2]
      simp only [g2',↓reduceIte]
      rw [if_pos g2]
      exact Ev.now _
     ·have g2':¬ (l[i]'hlt).data.toList=(l[i - 1]'hi1).data.toList:=fun e=>g2 (ba_ext e.symm)
      simp only [g2',↓reduceIte]
      rw [if_neg g2]
      cases withinB (l[i]'hlt).data.toList (l[i - 1]'hi1).data.toList with
      | true=>exact Ev.now _
      | false=>exact hn
  ·simp only [hp,↓reduceIte]
   exact Ev.now _
theorem together_ev (l:List ByteArray) (hl:l.length≤4294967296):Ev (fun k=>barqueref09_together.f k l) (pathsE l):=by
 unfold barqueref09_together.f pathsE
 by_cases h:256 < l.length
 ·have c1:(l.length:Int) > 256:=by omega
  simp only [c1,h,↓reduceIte]
  exact Ev.now _
 ·have c1:¬ ((l.length:Int) > 256):=by omega
  simp only [c1,h,↓reduceIte]
  have h:=together_l0 l hl l.length 0 (by omega) (by omega) (fun q e=>by cases e)
  simpa [prevO] using h
def ltP (p q:ByteArray):Prop:=cmpL p.data.toList q.data.toList < 0
instance (p q:ByteArray):Decidable (ltP p q):=by unfold ltP;infer_instance
theorem cmpB_eq (p q:ByteArray):cmpL p.data.toList q.data.toList=0 ↔ p=q:=⟨fun h=>ba_ext ((cmpL_eq _ _).1 h),fun h=>by rw [h];exact (cmpL_eq _ _).2 rfl⟩
theorem ltP_irrefl (p:ByteArray):¬ ltP p p:=fun h=>by
 have:=(cmpB_eq p p).2 rfl
 unfold ltP at h
 omega
theorem ltP_trans {p q r:ByteArray} (h:ltP p q) (k:ltP q r):ltP p r:=by
 have:=cmpL_trans p.data.toList q.data.toList r.data.toList
 unfold ltP at *
 obtain ⟨h1,h2⟩:=this (by omega) (by omega)
 have h3:cmpL p.data.toList r.data.toList ≠ 0:=fun e=>by have:=(h2 e).1;omega
 omega
theorem ltP_asymm {p q:ByteArray} (h:ltP p q):¬ ltP q p:=fun k=>ltP_irrefl p (ltP_trans h k)
theorem ltP_ne {p q:ByteArray} (h:ltP p q):p ≠ q:=fun e=>by
 subst e
 exact ltP_irrefl p h
theorem ltP_tri (p q:ByteArray):ltP p q∨p=q∨ltP q p:=by
 have h1:=cmpL_range p.data.toList q.data.toList
 have h2:=cmpL_neg p.data.toList q.data.toList
 have h3:=cmpB_eq p q
 unfold ltP
 rcases h1 with h|h|h
 ·exact .inl (by omega)
 ·exact .inr (.inl (h3.1 h))
 ·exact .inr (.inr (by omega))

theorem ltP_of_le_lt {p q r:ByteArray} (h:¬ ltP q p) (k:ltP q r):ltP p r:=by
 rcases ltP_tri p q with e|e|e
 ·exact ltP_trans e k
 ·rw [e];exact k
 ·exact absurd e h
theorem ltP_of_lt_le {p q r:ByteArray} (h:ltP p q) (k:¬ ltP r q):ltP p r:=by
 rcases ltP_tri q r with e|e|e
 ·exact ltP_trans h e
 ·rw [← e];exact h
 ·exact absurd e k
section
variable {α:Type} (key:α→ByteArray)

def insK (x:α):List α→List α
 | []=>[x]
 | y :: l=>if ltP (key x) (key y) then x :: y :: l else y :: insK x l
def sortK (l:List α):List α:=l.foldl (fun acc x=>insK key x acc) []
theorem insK_mem (x z:α):∀ l:List α,z ∈ insK key x l ↔ z=x∨z ∈ l
 | []=>by simp [insK]
 | y :: l=>by
  unfold insK
  split
  ·simp
  ·rw [List.mem_cons,insK_mem x z l,List.mem_cons]
   constructor
   ·rintro (h|h|h)
    ·exact .inr (.inl h)
    ·exact .inl h
    ·exact .inr (.inr h)
   ·rintro (h|h|h)
    ·exact .inr (.inl h)
    ·exact .inl h
    ·exact .inr (.inr h)
theorem insK_length (x:α):∀ l:List α,(insK key x l).length=l.length + 1
 | []=>rfl
 | y :: l=>by
  unfold insK
  split
  ·rfl
  ·rw [List.length_cons,insK_length x l,List.length_cons]
abbrev SortedK (l:List α):Prop:=l.Pairwise (fun x y=>ltP (key x) (key y))
theorem insK_sorted (x:α):∀ l:List α,SortedK key l→(∀ y ∈ l,key y ≠ key x)→SortedK key (insK key x l)
 | [],_,_=>by simp [insK]
 | y :: l,h,hn=>by
  obtain ⟨h1,h2⟩:=List.pairwise_cons.1 h
  unfold insK
  split
  ·rename_i hlt
   exact List.pairwise_cons.2 ⟨fun z hz=>by
    rcases List.mem_cons.1 hz with e|e
    ·rw [e];exact hlt
    ·exact ltP_trans hlt (h1 z e),h⟩
  ·rename_i hlt
   refine List.pairwise_cons.2 ⟨fun z hz=>?_,insK_sorted x l h2 (fun z hz=>hn z (List.mem_cons_of_mem _ hz))⟩
   rcases (insK_mem key x z l).1 hz with e|e
   ·subst e
    rcases ltP_tri (key y) (key z) with g|g|g
    ·exact g
    ·exact absurd g (hn y List.mem_cons_self)
    ·exact absurd g hlt
   ·exact h1 z e
theorem sortK_fold (l:List α):∀ acc:List α,SortedK key acc→((acc ++ l).Pairwise fun x y=>key x ≠ key y) →
  SortedK key (l.foldl (fun a x=>insK key x a) acc)∧∀ z,z ∈ l.foldl (fun a x=>insK key x a) acc ↔ z ∈ acc∨z ∈ l:=by
 induction l with
 | nil=>intro acc h _;exact ⟨h,fun z=>by simp⟩
 | cons x l ih =>
  intro acc h hn
  rw [List.foldl_cons]
  obtain ⟨n1,n2,n3⟩:=List.pairwise_append.1 hn
  obtain ⟨n4,n5⟩:=List.pairwise_cons.1 n2
  obtain ⟨i1,i2⟩:=ih (insK key x acc) (insK_sorted key x acc h (fun y hy=>n3 y hy x List.mem_cons_self)) (List.pairwise_append.2 ⟨by
   have hs:=insK_sorted key x acc h (fun y hy=>n3 y hy x List.mem_cons_self)
   exact hs.imp (fun g=>ltP_ne g),n5,fun y hy z hz=>by
    rcases (insK_mem key x y acc).1 hy with e|e
    ·rw [e];exact n4 z hz
    ·exact n3 y e z (List.mem_cons_of_mem _ hz)⟩)
  refine ⟨i1,fun z=>?_⟩
  rw [i2,insK_mem,List.mem_cons]
  constructor
  ·rintro ((h|h)|h)
   ·exact .inr (.inl h)
   ·exact .inl h
   ·exact .inr (.inr h)
  ·rintro (h|h|h)
   ·exact .inl (.inr h)
   ·exact .inl (.inl h)
   ·exact .inr h
theorem sortK_spec (l:List α) (h:l.Pairwise fun x y=>key x ≠ key y):SortedK key (sortK key l)∧∀ z,z ∈ sortK key l ↔ z ∈ l:=by
 have:=sortK_fold key l [] List.Pairwise.nil (by simpa using h)
 refine ⟨this.1,fun z=>?_⟩
 have h2:=this.2 z
 simp only [List.not_mem_nil,false_or] at h2
 exact h2

theorem sorted_unique:∀ a b:List α,SortedK key a→SortedK key b→(∀ z,z ∈ a ↔ z ∈ b)→a=b
 | [],[],_,_,_=>rfl
 | [],y :: b,_,_,h=>by simpa using (h y).2 List.mem_cons_self
 | x :: a,[],_,_,h=>by simpa using (h x).1 List.mem_cons_self
 | x :: a,y :: b,ha,hb,h=>by
  obtain ⟨a1,a2⟩:=List.pairwise_cons.1 ha
  obtain ⟨b1,b2⟩:=List.pairwise_cons.1 hb
  have e:x=y:=by
   rcases List.mem_cons.1 ((h x).1 List.mem_cons_self) with e|e
   ·exact e
   ·rcases List.mem_cons.1 ((h y).2 List.mem_cons_self) with g|g
    ·exact g.symm
    ·exact absurd (ltP_trans (b1 x e) (a1 y g)) (ltP_irrefl _)
  subst e
  congr 1
  refine sorted_unique a b a2 b2 (fun z=>?_)
  constructor
  ·intro hz
   rcases List.mem_cons.1 ((h z).1 (List.mem_cons_of_mem _ hz)) with e|e
   ·subst e;exact absurd (a1 z hz) (ltP_irrefl _)
   ·exact e
  ·intro hz
   rcases List.mem_cons.1 ((h z).2 (List.mem_cons_of_mem _ hz)) with e|e
   ·subst e;exact absurd (b1 z hz) (ltP_irrefl _)
   ·exact e
end

theorem togE_sorted:∀ (l:List ByteArray) (p:Option ByteArray),togE p l=0→SortedK id l∧(∀ q,p=some q→∀ s ∈ l,ltP q s)∧∀ s ∈ l,pathE s=0
 | [],p,_=>⟨List.Pairwise.nil,fun _ _ s hs=>by simp at hs,fun s hs=>by simp at hs⟩
 | s :: l,p,h=>by
  rw [togE_cons] at h
  by_cases hp:pathE s=0
  ·rw [if_pos hp] at h
   have key:togE (some s) l=0∧∀ q,p=some q→ltP q s:=by
    cases p with
    | none=>exact ⟨h,fun q e=>by cases e⟩
    | some q =>
     simp only at h
     by_cases c1:0 < cmpL q.data.toList s.data.toList
     ·rw [if_pos c1] at h;omega
     rw [if_neg c1] at h
     by_cases c2:q=s
     ·rw [if_pos c2] at h;omega
     rw [if_neg c2] at h
     by_cases c3:withinB s.data.toList q.data.toList
     ·rw [if_pos c3] at h;omega
     rw [if_neg c3] at h
     refine ⟨h,fun q' e=>?_⟩
     injection e with e
     subst e
     rcases ltP_tri q s with g|g|g
     ·exact g
     ·exact absurd g c2
     ·unfold ltP at g
      rw [cmpL_neg] at g
      omega
   obtain ⟨k1,k2⟩:=key
   obtain ⟨i1,i2,i3⟩:=togE_sorted l (some s) k1
   have hs:=i2 s rfl
   refine ⟨List.pairwise_cons.2 ⟨hs,i1⟩,fun q e z hz=>?_,fun z hz=>?_⟩
   ·rcases List.mem_cons.1 hz with g|g
    ·rw [g];exact k2 q e
    ·exact ltP_trans (k2 q e) (hs z g)
   ·rcases List.mem_cons.1 hz with g|g
    ·rw [g];exact hp
    ·exact i3 z g
  ·rw [if_neg hp] at h
   exact absurd h hp
theorem pathsE_sorted (l:List ByteArray) (h:pathsE l=0):SortedK id l∧(∀ s ∈ l,pathE s=0)∧l.length≤256:=by
 unfold pathsE at h
 by_cases c:256 < l.length
 ·rw [if_pos c] at h;omega
 rw [if_neg c] at h
 obtain ⟨h1,_,h3⟩:=togE_sorted l none h
 exact ⟨h1,h3,by omega⟩
end Go.Proofs.YtmeofdpmddjbgaaDoor.G
end
section
namespace Go.Proofs.YtmeofdpmddjbgaaDoor.G
open Go.RowKit Go.Proofs.YtmeofdpmddjbgaaDoorW.PrintWords Go.Proofs.YtmeofdpmddjbgaaDoorW.PrintLast Go.Proofs.YtmeofdpmddjbgaaDoorW.PrintMore
attribute [local go_sem] max2_int min2_int max_two min_two max_three min_three max_four min_four   
set_option linter.unusedVariables false
set_option linter.unusedSimpArgs false
def tree_mode.f (a0:Int):Option (Bool):=if a0 ≥ 0 then (some (decide (a0≤511))) else (some false)
set_option maxHeartbeats 8000000 in
set_option maxRecDepth 100000 in
theorem tree_mode.calls (a0:Int) (r:Bool) (w:World) (h:tree_mode.f a0=some r) :
  Calls Tryd.prog 50 #[.int .i64 a0] w fun e w'=>e=.returned (.bool r)∧Drawn0 w w':=by
 have H:(if a0 ≥ 0 then (some (decide (a0≤511))) else (some false))=some r:=h;clear h;by_cases c2:a0 ≥ 0
 ·rw [if_pos c2] at H;have c2b0:decide (0≤a0)=true:=decide_eq_true c2;clear c2;obtain rfl:=Option.some.inj H;go_enter Tryd.func50,Tryd.ntmps50;go_wp2;go_ret;exact ⟨by first|rfl|(simp;done)|(simp [*];done),by repeat (first|exact Drawn0.refl _|apply Drawn0.step)⟩
 ·rw [if_neg c2] at H;have c2b0:decide (0≤a0)=false:=decide_eq_false c2;clear c2;obtain rfl:=Option.some.inj H;go_enter Tryd.func50,Tryd.ntmps50;go_wp2;go_ret;exact ⟨by first|rfl|(simp;done)|(simp [*];done),by repeat (first|exact Drawn0.refl _|apply Drawn0.step)⟩
mutual
def tree_Check.l0:Nat→List (S33)→List ByteArray→List (S33)→Int→Int→Option (Int)
 | 0,_,_,_,_,_=>none
 | k + 1,x0,x3,x9,x10,x11=>if x11 < x10 then (if 0≤x11 then (if x11 < (x9.length:Int) then (if x3.length < 8796093022208 then (tree_Check.l0 k x0 (x3 ++ [(rd_T33 x9 x11).f0]) x9 x10 (wrap64 (x11 + 1))) else (none)) else (none)) else (none)) else ((tree_paths.f k x3).bind fun t125=>(if t125=0 then (tree_Check.l1 k x0 (x0.length:Int) 0) else (some t125)))
def tree_Check.l1:Nat→List (S33)→Int→Int→Option (Int)
 | 0,_,_,_=>none
 | k + 1,x26,x27,x28=>if x28 < x27 then (if 0≤x28 then (if x28 < (x26.length:Int) then ((tree_mode.f ((rd_T33 x26 x28).f1)).bind fun t128=>(if t128=true then (if (((rd_T33 x26 x28).f2).size:Int) > 65536 then (some 4) else (tree_Check.l1 k x26 x27 (wrap64 (x28 + 1)))) else (some 11))) else (none)) else (none)) else (some 0)
end
def tree_Check.f (k:Nat) (l0:List (S33)):Option (Int):=tree_Check.l0 k l0 ([]:List ByteArray) l0 (l0.length:Int) 0
theorem tree_Check.mono_l:∀ k,(∀ y0 y1 y2 y3 y4,LeO (tree_Check.l0 k y0 y1 y2 y3 y4) (tree_Check.l0 (k + 1) y0 y1 y2 y3 y4))∧(∀ y0 y1 y2,LeO (tree_Check.l1 k y0 y1 y2) (tree_Check.l1 (k + 1) y0 y1 y2))
 | 0=>⟨fun _ _ _ _ _ r h=>by simp [tree_Check.l0] at h,fun _ _ _ r h=>by simp [tree_Check.l1] at h⟩
 | k + 1=>by
  obtain ⟨ih0,ih1⟩:=tree_Check.mono_l k
  refine ⟨?_,?_⟩
  ·intro y0 y1 y2 y3 y4
   unfold tree_Check.l0
   repeat' first
   | (with_reducible exact ih0 _ _ _ _ _)
   | (with_reducible exact ih1 _ _ _)
   | (with_reducible exact tree_paths.mono _ _)
   | (with_reducible exact LeO.refl _)
   | (with_reducible exact LeO.none _)
   | (with_reducible refine LeO.ite ?_ ?_)
   | (with_reducible refine LeO.bind ?_ (fun _=>?_))
   | exact ih0 _ _ _ _ _
   | exact ih1 _ _ _
   | exact tree_paths.mono _ _
   | exact LeO.none _
   | refine LeO.ite ?_ ?_
   | refine LeO.bind ?_ (fun _=>?_)
  ·intro y0 y1 y2
   unfold tree_Check.l1
   repeat' first
   | (with_reducible exact ih0 _ _ _ _ _)
   | (with_reducible exact ih1 _ _ _)
   | (with_reducible exact tree_paths.mono _ _)
   | (with_reducible exact LeO.refl _)
   | (with_reducible exact LeO.none _)
   | (with_reducible refine LeO.ite ?_ ?_)
   | (with_reducible refine LeO.bind ?_ (fun _=>?_))
   | exact ih0 _ _ _ _ _
   | exact ih1 _ _ _
   | exact tree_paths.mono _ _
   | exact LeO.none _
   | refine LeO.ite ?_ ?_
   | refine LeO.bind ?_ (fun _=>?_)
theorem tree_Check.mono:∀ a0 k,LeO (tree_Check.f k a0) (tree_Check.f (k + 1) a0):=by
 intro a0 k
 obtain ⟨ih0,ih1⟩:=tree_Check.mono_l k
 unfold tree_Check.f
 repeat' first
   | (with_reducible exact ih0 _ _ _ _ _)
   | (with_reducible exact ih1 _ _ _)
   | (with_reducible exact tree_paths.mono _ _)
   | (with_reducible exact LeO.refl _)
   | (with_reducible exact LeO.none _)
   | (with_reducible refine LeO.ite ?_ ?_)
   | (with_reducible refine LeO.bind ?_ (fun _=>?_))
   | exact ih0 _ _ _ _ _
   | exact ih1 _ _ _
   | exact tree_paths.mono _ _
   | exact LeO.none _
   | refine LeO.ite ?_ ?_
   | refine LeO.bind ?_ (fun _=>?_)
set_option maxHeartbeats 8000000 in
set_option maxRecDepth 100000 in
theorem tree_Check.calls (k:Nat) (A0:Option Addr) (c0:Nat) (l0:List (S33)) (r:Int) (w:World) (hr0:Kd.C k33 w A0 l0.length l0) (hc0:l0.length≤c0) (h:tree_Check.f k l0=some r) :
  Calls Tryd.prog 27 #[.slice A0 l0.length c0] w fun e w'=>e=.returned (.int .i64 r)∧Below w.heap.size w w':=by
 have hu33:=Tryd.underlying33;have HR0:=Aside0.mk hr0;have HC0:=Aside0.mk hc0;clear hr0 hc0;have HB:=Aside0.mk (Below.refl w.heap.size w);have H:(tree_Check.l0 k l0 ([]:List ByteArray) l0 (l0.length:Int) 0)=some r:=h;clear h;have H':=Aside0.mk H;clear H;go_enter Tryd.func27,Tryd.ntmps27;go_wp2;go_loopg [3,11] k (fun kq v3 v11 w'=>∃ (x3_1:List ByteArray) (x11_1:Int),v11=.int .i64 x11_1∧Aside0 (tree_Check.l0 kq l0 x3_1 l0 (l0.length:Int) x11_1=some r)∧Aside0 (kq≤k)∧Aside0 (Kd.R Kd.string 9 w' w.heap.size (fun _=>True) v3 x3_1)∧Aside0 (Below w.heap.size w w'))
 case atStart=>exact ⟨(([]:List ByteArray)),(0),(by first|rfl|(simp;done)|(simp [*];done)),H',⟨Nat.le_refl _⟩,⟨by first|exact Kd.R_nil _ _ _ _ _|exact Kd.N_nil _ _ _ _ _|exact Kd.V_nil _ _ _ _ _|exact Kd.Q_nil _ _ _ _ _|exact Kd.S_nil _ _ _ _ _⟩,⟨by repeat (first|(with_reducible first|exact HB.out|apply bal|apply bdN|apply bd1)|exact HB.out)⟩⟩
 case round =>
  clear H';obtain ⟨x3_1,x11_1,rfl,HA,HK1,HO_3,HB⟩:=hrel
  cases gk with
  | zero=>exact absurd HA.out (by simp [tree_Check.l0])
  | succ k1 =>
   have H:=HA.out;clear HA;simp only [tree_Check.l0] at H;by_cases c2:x11_1 < (l0.length:Int)
   ·rw [if_pos c2] at H;have c2b0:decide (x11_1 < (l0.length:Int))=true:=decide_eq_true c2;clear c2;by_cases c3:0≤x11_1
    ·rw [if_pos c3] at H;have c3b0:decide (0≤x11_1)=true:=decide_eq_true c3;clear c3;by_cases c4:x11_1 < (l0.length:Int)
     ·rw [if_pos c4] at H;have c4b0:decide (x11_1 < (l0.length:Int))=true:=decide_eq_true c4;clear c4;by_cases c5:x3_1.length < 8796093022208
      ·rw [if_pos c5] at H;have LMc5:=Aside0.mk c5;clear c5;obtain ⟨y122,hy122⟩:∃ y_:List ByteArray,y_=(x3_1 ++ [(rd_T33 l0 x11_1).f0]):=⟨_,rfl⟩;(replace H:(tree_Check.l0 k1 l0 y122 l0 (l0.length:Int) (wrap64 (x11_1 + 1)))=some r:=by first|(rw [hy122];with_reducible exact H)|(have H2_:=(Option.bind_some _ _).symm.trans H;rw [hy122];with_reducible exact H2_)|(have H2_:=(Option.bind_some _ _).symm.trans H;with_reducible exact H2_)|with_reducible exact H|(rw [hy122];exact H)|exact H);have Ny122:=Aside0.mk hy122;clear hy122;have H':=Aside0.mk H;clear H;have p120:0≤(x11_1:Int):=of_decide_eq_true (by first|(with_reducible assumption)|assumption);have q120:x11_1 < (l0.length:Int):=of_decide_eq_true (by first|(with_reducible assumption)|assumption);obtain ⟨ad120,e120,hx120_0,hx120_1,hx120_2⟩:=at_T33 HR0.out x11_1 p120 q120;cases e120;replace hx120_0:=(HB.out.cell (World.block_lt_of_cell? w _ hx120_0)).trans hx120_0;replace hx120_1:=(HB.out.cell (World.block_lt_of_cell? w _ hx120_1)).trans hx120_1;replace hx120_2:=(HB.out.cell (World.block_lt_of_cell? w _ hx120_2)).trans hx120_2;replace p120:=eq_true p120;replace q120:=eq_true q120;go_wp2_with (first|((with_reducible refine gate_dst (N:=5) rfl ?_);refine box_event ?hg (N:=5) ?hd (cs:=#[.string (⟨#[]⟩:ByteArray),.int .i64 0,.string (⟨#[]⟩:ByteArray)]) (t:=33) ?hr ?_;(case hd=>rfl);(case hg=>rfl);(case hr=>first|(go_simp;done)|(go_simp;rfl));intro gb121 hg w6 hbox hb;have n0_:=Aside0.mk (Kd.R_below (by (with_reducible repeat (first|apply Kd.R_alloc|apply Kd.R_drewN|apply Kd.R_drew));exact HO_3.out) hb);have n1_:=Aside0.mk (below_step (by repeat (first|(with_reducible first|exact HB.out|apply bal|apply bdN|apply bd1)|exact HB.out)) hb);have n2_:=Aside0.mk (hbox);have n3_:=Aside0.mk ((by rw [hg];exact (below_size (by repeat (first|(with_reducible first|exact HB.out|apply bal|apply bdN|apply bd1)|exact HB.out))):w.heap.size≤gb121));have n4_:=Aside0.mk ((by rw [hg];exact (below_size (by repeat (first|(with_reducible first|exact HB.out|apply bal|apply bdN|apply bd1)|exact HB.out))):w.heap.size≤gb121));clear HO_3;clear HB;have HO_3:=n0_;have HB:=n1_;have BK121:=n2_;have GW121:=n3_;have GE121:=n4_;clear n0_ n1_ n2_ n3_ n4_;clear hb hbox hg;have hcz7_0:w6.cell? ⟨gb121,0,none⟩=some (.string (⟨#[]⟩:ByteArray)):=(blk_cell BK121.out 0).trans rfl;have hcz7_1:w6.cell? ⟨gb121,1,none⟩=some (.int .i64 0):=(blk_cell BK121.out 1).trans rfl;have hcz7_2:w6.cell? ⟨gb121,2,none⟩=some (.string (⟨#[]⟩:ByteArray)):=(blk_cell BK121.out 2).trans rfl;have hfz7_0:=blk_frozen BK121.out 0;have hfz7_1:=blk_frozen BK121.out 1;have hfz7_2:=blk_frozen BK121.out 2)|((with_reducible refine gate_builtin (b:=.append) (xs:=#[.tmp 15,.tmp 18]) rfl ?_);at_builtin;refine Kd.R_append Kd.string (w0:=w) w.heap.size rfl (.tmp 15) (.tmp 18) 43 9 (.string ⟨#[]⟩) 16 rfl Tryd.underlying43 info9 rfl (by decide) (by omega) u3 x3_1 ((rd_T33 l0 x11_1).f0) [.string ((rd_T33 l0 x11_1).f0)] (fun _=>True) (fun _=>False) rfl (by first|(go_simp;done)|(go_simp;rfl)) ?aP (fun _ hk=>hk.elim) ?aF ?aO ?aB ?aS ?aL ?_;(case aP=>exact rfl);(case aB=>exact (by repeat (first|(with_reducible first|exact HB.out|apply bal|apply bdN|apply bd1|refine below_set ?_ GE121.out)|exact HB.out)));(case aF=>exact (fun _ _=>trivial));(case aO=>exact (by (with_reducible repeat (first|apply Kd.R_alloc|apply Kd.R_drewN|apply Kd.R_drew));exact Kd.R_mono (Kd.R_far (p:=⟨gb121,2,none⟩) (Kd.R_far (p:=⟨gb121,1,none⟩) (Kd.R_far (p:=⟨gb121,0,none⟩) (Kd.R_types HO_3.out BK121.out (by decide)) (fun _ hk=>hk.2) (.string ((rd_T33 l0 x11_1).f0))) (fun _ hk=>hk.2) (.int .i64 ((rd_T33 l0 x11_1).f1))) (fun _ hk=>hk.2) (.string ((rd_T33 l0 x11_1).f2))) (fun _ hk=>trivial)));(case aS=>exact (below_size (by repeat (first|(with_reducible first|exact HB.out|apply bal|apply bdN|apply bd1|refine below_set ?_ GE121.out)|exact HB.out))));(case aL=>have:=LMc5.out;omega);intro v123 w8 ho hb hg hat;rw [← Ny122.out] at ho;have n0_:=Aside0.mk (blk_grown (g:=gb121) (o:=.cells #[.string ((rd_T33 l0 x11_1).f0),.int .i64 ((rd_T33 l0 x11_1).f1),.string ((rd_T33 l0 x11_1).f2)] 33 (0,0)) (by (with_reducible repeat (first|refine blk_drewN ?_ _|refine blk_drew ?_|refine blk_alloc ?_ _));refine blk_put (cs:=#[.string ((rd_T33 l0 x11_1).f0),.int .i64 ((rd_T33 l0 x11_1).f1),.string (⟨#[]⟩:ByteArray)]) ?_ 2 _ rfl;(with_reducible repeat (first|refine blk_drewN ?_ _|refine blk_drew ?_|refine blk_alloc ?_ _));refine blk_put (cs:=#[.string ((rd_T33 l0 x11_1).f0),.int .i64 0,.string (⟨#[]⟩:ByteArray)]) ?_ 1 _ rfl;(with_reducible repeat (first|refine blk_drewN ?_ _|refine blk_drew ?_|refine blk_alloc ?_ _));refine blk_put (cs:=#[.string (⟨#[]⟩:ByteArray),.int .i64 0,.string (⟨#[]⟩:ByteArray)]) ?_ 0 _ rfl;(with_reducible repeat (first|refine blk_drewN ?_ _|refine blk_drew ?_|refine blk_alloc ?_ _));exact BK121.out) hg (Kd.R_ne HO_3.out BK121.out (by decide)));have n1_:=Aside0.mk (hb);have n2_:=Aside0.mk (ho);clear BK121;clear HB;clear HO_3;have BK121:=n0_;have HB:=n1_;have HO124:=n2_;clear n0_ n1_ n2_;clear ho hb hg hat));go_roundg k1
       case measure=>have:=HK1.out;omega
       case rel=>exact ⟨(y122),(wrap64 (x11_1 + 1)),(by first|rfl|(simp;done)|(simp [*];done)),H',⟨by have:=HK1.out;omega⟩,⟨by (with_reducible repeat (first|apply Kd.R_alloc|apply Kd.R_drewN|apply Kd.R_drew));exact HO124.out⟩,⟨by repeat (first|(with_reducible first|exact HB.out|apply bal|apply bdN|apply bd1|refine below_set ?_ GE121.out)|exact HB.out)⟩⟩
      ·rw [if_neg c5] at H;exact absurd H (by simp)
     ·rw [if_neg c4] at H;exact absurd H (by simp)
    ·rw [if_neg c3] at H;exact absurd H (by simp)
   ·rw [if_neg c2] at H;have c2b0:decide (x11_1 < (l0.length:Int))=false:=decide_eq_false c2;clear c2;replace H:=Option.bind_eq_some_iff.mp H;obtain ⟨t125,A90,H⟩:=H;replace H:(if t125=0 then (tree_Check.l1 k1 l0 (l0.length:Int) 0) else (some t125))=some r:=H;have A9:=Aside0.mk A90;clear A90;by_cases c10:t125=0
    ·rw [if_pos c10] at H;have c10b0:(t125 == 0)=true:=beq_iff_eq.mpr c10;have c10b1:(t125 != 0)=false:=bne_eq_false_iff_eq.mpr c10;clear c10;have H':=Aside0.mk H;clear H;obtain ⟨Ao11,co11,eo11⟩:=Kd.R_slice HO_3.out;subst eo11;go_wp2_with (first|((with_reducible refine gate_callee (f:=49) rfl ?_);refine goesL_ (some 22) rfl rfl Tryd.func49 (by kernel_rfl) rfl #[.slice Ao11 x3_1.length co11] rfl (by (try simp only [List.map_toArray,List.map_cons,List.map_nil]);first|done|rfl|(simp only [List.length_drop,List.length_take];rfl)) ?_;(with_reducible refine (tree_paths.calls k1 _ _ x3_1 t125 _ ?side1 ?side2 A9.out).mono ?_);(case side1=>repeat (first|exact (Kd.R_reads' HO_3.out).2.2|(with_reducible refine Kd.C_alloc ?_ _)|(with_reducible refine Kd.C_drewN ?_ _)|(with_reducible refine Kd.C_drew ?_)));(case side2=>exact (Kd.R_reads' HO_3.out).2.1);rintro e w12 ⟨rfl,hb⟩;refine ⟨_,rfl,?_⟩;have n0_:=Aside0.mk (Kd.R_below (by (with_reducible repeat (first|apply Kd.R_alloc|apply Kd.R_drewN|apply Kd.R_drew));exact HO_3.out) hb);have n1_:=Aside0.mk (below_step (by repeat (first|(with_reducible first|exact HB.out|apply bal|apply bdN|apply bd1)|exact HB.out)) hb);clear HO_3;clear HB;have HO_3:=n0_;have HB:=n1_;clear n0_ n1_;(try clear hb);(try clear hb2);(try clear hk);(try clear hi)));go_loopg [28] k1 (fun kq v28 w'=>∃ (x28_2:Int),v28=.int .i64 x28_2∧Aside0 (tree_Check.l1 kq l0 (l0.length:Int) x28_2=some r)∧Aside0 (kq≤k1)∧Aside0 (Below w.heap.size w w'))
     case atStart=>exact ⟨(0),(by first|rfl|(simp;done)|(simp [*];done)),H',⟨Nat.le_refl _⟩,⟨by repeat (first|(with_reducible first|exact HB.out|apply bal|apply bdN|apply bd1)|exact HB.out)⟩⟩
     case round =>
      clear H';(try clear c1);(try clear p1);(try clear q1);(try clear hx1);(try clear c2);(try clear c2b0);(try clear p2);(try clear c3);(try clear c3b0);(try clear c4);(try clear c4b0);(try clear c5);(try clear p6);(try clear c10);(try clear c10b0);(try clear c10b1);(try clear p12);(try clear q12);(try clear hx12);(try clear hcz7_0);(try clear hcz7_1);(try clear hcz7_2);(try clear hfz7_0);(try clear hfz7_1);(try clear hfz7_2);(try clear hx120_0);(try clear hx120_1);(try clear hx120_2);(try clear p120);(try clear q120);obtain ⟨x28_2,rfl,HA,HK2,HB⟩:=hrel
      cases gk with
      | zero=>exact absurd HA.out (by simp [tree_Check.l1])
      | succ k2 =>
       have H:=HA.out;clear HA;simp only [tree_Check.l1] at H;by_cases c13:x28_2 < (l0.length:Int)
       ·rw [if_pos c13] at H;have c13b0:decide (x28_2 < (l0.length:Int))=true:=decide_eq_true c13;clear c13;by_cases c14:0≤x28_2
        ·rw [if_pos c14] at H;have c14b0:decide (0≤x28_2)=true:=decide_eq_true c14;clear c14;by_cases c15:x28_2 < (l0.length:Int)
         ·rw [if_pos c15] at H;have c15b0:decide (x28_2 < (l0.length:Int))=true:=decide_eq_true c15;clear c15;replace H:=Option.bind_eq_some_iff.mp H;obtain ⟨t128,A160,H⟩:=H;replace H:(if t128=true then (if (((rd_T33 l0 x28_2).f2).size:Int) > 65536 then (some 4) else (tree_Check.l1 k2 l0 (l0.length:Int) (wrap64 (x28_2 + 1)))) else (some 11))=some r:=H;have A16:=Aside0.mk A160;clear A160;by_cases c17:t128=true
          ·subst c17;(have H1:(if (((rd_T33 l0 x28_2).f2).size:Int) > 65536 then (some 4) else (tree_Check.l1 k2 l0 (l0.length:Int) (wrap64 (x28_2 + 1))))=some r:=by rw [if_pos rfl] at H;exact H);clear H;have H:=H1;clear H1;by_cases c18:(((rd_T33 l0 x28_2).f2).size:Int) > 65536
           ·rw [if_pos c18] at H;have c18b0:decide (65536 < (((rd_T33 l0 x28_2).f2).size:Int))=true:=decide_eq_true c18;have c18b1:decide (65536 < ((rd_T33 l0 x28_2).f2).size)=true:=decide_eq_true (by omega);clear c18;obtain rfl:=Option.some.inj H;have p126:0≤(x28_2:Int):=of_decide_eq_true (by first|(with_reducible assumption)|assumption);have q126:x28_2 < (l0.length:Int):=of_decide_eq_true (by first|(with_reducible assumption)|assumption);obtain ⟨ad126,e126,hx126_0,hx126_1,hx126_2⟩:=at_T33 HR0.out x28_2 p126 q126;cases e126;replace hx126_0:=(HB.out.cell (World.block_lt_of_cell? w _ hx126_0)).trans hx126_0;replace hx126_1:=(HB.out.cell (World.block_lt_of_cell? w _ hx126_1)).trans hx126_1;replace hx126_2:=(HB.out.cell (World.block_lt_of_cell? w _ hx126_2)).trans hx126_2;replace p126:=eq_true p126;replace q126:=eq_true q126;go_wp2_with (first|((with_reducible refine gate_dst (N:=8) rfl ?_);refine box_event ?hg (N:=8) ?hd (cs:=#[.string (⟨#[]⟩:ByteArray),.int .i64 0,.string (⟨#[]⟩:ByteArray)]) (t:=33) ?hr ?_;(case hd=>rfl);(case hg=>rfl);(case hr=>first|(go_simp;done)|(go_simp;rfl));intro gb127 hg w19 hbox hb;have n0_:=Aside0.mk (below_step (by repeat (first|(with_reducible first|exact HB.out|apply bal|apply bdN|apply bd1)|exact HB.out)) hb);have n1_:=Aside0.mk (hbox);have n2_:=Aside0.mk ((by rw [hg];exact (below_size (by repeat (first|(with_reducible first|exact HB.out|apply bal|apply bdN|apply bd1)|exact HB.out))):w.heap.size≤gb127));have n3_:=Aside0.mk ((by rw [hg];exact (below_size (by repeat (first|(with_reducible first|exact HB.out|apply bal|apply bdN|apply bd1)|exact HB.out))):w.heap.size≤gb127));clear HB;have HB:=n0_;have BK127:=n1_;have GW127:=n2_;have GE127:=n3_;clear n0_ n1_ n2_ n3_;clear hb hbox hg;have hcz20_0:w19.cell? ⟨gb127,0,none⟩=some (.string (⟨#[]⟩:ByteArray)):=(blk_cell BK127.out 0).trans rfl;have hcz20_1:w19.cell? ⟨gb127,1,none⟩=some (.int .i64 0):=(blk_cell BK127.out 1).trans rfl;have hcz20_2:w19.cell? ⟨gb127,2,none⟩=some (.string (⟨#[]⟩:ByteArray)):=(blk_cell BK127.out 2).trans rfl;have hfz20_0:=blk_frozen BK127.out 0;have hfz20_1:=blk_frozen BK127.out 1;have hfz20_2:=blk_frozen BK127.out 2)|((with_reducible refine gate_callee (f:=50) rfl ?_);refine goesL_ (some 35) rfl rfl Tryd.func50 (by kernel_rfl) rfl #[.int .i64 ((rd_T33 l0 x28_2).f1)] rfl (by (try simp only [List.map_toArray,List.map_cons,List.map_nil]);first|done|rfl|(simp only [List.length_drop,List.length_take];rfl)) ?_;(with_reducible refine (tree_mode.calls ((rd_T33 l0 x28_2).f1) true _ A16.out).mono ?_);rintro e w' ⟨rfl,⟨nd,rfl⟩⟩;refine ⟨_,rfl,?_⟩));go_ret;exact ⟨by first|rfl|(simp [errW_none,errW_some] <;> rfl)|(simp [*,errW_none,errW_some] <;> rfl),by repeat (first|(with_reducible first|exact HB.out|apply bal|apply bdN|apply bd1|refine below_set ?_ GE127.out)|exact HB.out)⟩
           ·rw [if_neg c18] at H;have c18b0:decide (65536 < (((rd_T33 l0 x28_2).f2).size:Int))=false:=decide_eq_false c18;have c18b1:decide (65536 < ((rd_T33 l0 x28_2).f2).size)=false:=decide_eq_false (by omega);clear c18;have H':=Aside0.mk H;clear H;have p126:0≤(x28_2:Int):=of_decide_eq_true (by first|(with_reducible assumption)|assumption);have q126:x28_2 < (l0.length:Int):=of_decide_eq_true (by first|(with_reducible assumption)|assumption);obtain ⟨ad126,e126,hx126_0,hx126_1,hx126_2⟩:=at_T33 HR0.out x28_2 p126 q126;cases e126;replace hx126_0:=(HB.out.cell (World.block_lt_of_cell? w _ hx126_0)).trans hx126_0;replace hx126_1:=(HB.out.cell (World.block_lt_of_cell? w _ hx126_1)).trans hx126_1;replace hx126_2:=(HB.out.cell (World.block_lt_of_cell? w _ hx126_2)).trans hx126_2;replace p126:=eq_true p126;replace q126:=eq_true q126;go_wp2_with (first|((with_reducible refine gate_dst (N:=8) rfl ?_);refine box_event ?hg (N:=8) ?hd (cs:=#[.string (⟨#[]⟩:ByteArray),.int .i64 0,.string (⟨#[]⟩:ByteArray)]) (t:=33) ?hr ?_;(case hd=>rfl);(case hg=>rfl);(case hr=>first|(go_simp;done)|(go_simp;rfl));intro gb127 hg w21 hbox hb;have n0_:=Aside0.mk (below_step (by repeat (first|(with_reducible first|exact HB.out|apply bal|apply bdN|apply bd1)|exact HB.out)) hb);have n1_:=Aside0.mk (hbox);have n2_:=Aside0.mk ((by rw [hg];exact (below_size (by repeat (first|(with_reducible first|exact HB.out|apply bal|apply bdN|apply bd1)|exact HB.out))):w.heap.size≤gb127));have n3_:=Aside0.mk ((by rw [hg];exact (below_size (by repeat (first|(with_reducible first|exact HB.out|apply bal|apply bdN|apply bd1)|exact HB.out))):w.heap.size≤gb127));clear HB;have HB:=n0_;have BK127:=n1_;have GW127:=n2_;have GE127:=n3_;clear n0_ n1_ n2_ n3_;clear hb hbox hg;have hcz22_0:w21.cell? ⟨gb127,0,none⟩=some (.string (⟨#[]⟩:ByteArray)):=(blk_cell BK127.out 0).trans rfl;have hcz22_1:w21.cell? ⟨gb127,1,none⟩=some (.int .i64 0):=(blk_cell BK127.out 1).trans rfl;have hcz22_2:w21.cell? ⟨gb127,2,none⟩=some (.string (⟨#[]⟩:ByteArray)):=(blk_cell BK127.out 2).trans rfl;have hfz22_0:=blk_frozen BK127.out 0;have hfz22_1:=blk_frozen BK127.out 1;have hfz22_2:=blk_frozen BK127.out 2)|((with_reducible refine gate_callee (f:=50) rfl ?_);refine goesL_ (some 35) rfl rfl Tryd.func50 (by kernel_rfl) rfl #[.int .i64 ((rd_T33 l0 x28_2).f1)] rfl (by (try simp only [List.map_toArray,List.map_cons,List.map_nil]);first|done|rfl|(simp only [List.length_drop,List.length_take];rfl)) ?_;(with_reducible refine (tree_mode.calls ((rd_T33 l0 x28_2).f1) true _ A16.out).mono ?_);rintro e w' ⟨rfl,⟨nd,rfl⟩⟩;refine ⟨_,rfl,?_⟩));go_roundg k2
            case measure=>have:=HK1.out;have:=HK2.out;omega
            case rel=>exact ⟨(wrap64 (x28_2 + 1)),(by first|rfl|(simp;done)|(simp [*];done)),H',⟨by have:=HK1.out;have:=HK2.out;omega⟩,⟨by repeat (first|(with_reducible first|exact HB.out|apply bal|apply bdN|apply bd1|refine below_set ?_ GE127.out)|exact HB.out)⟩⟩
          ·replace c17:=Bool.eq_false_iff.mpr c17;subst c17;(have H1:(some 11)=some r:=by rw [if_neg (show ¬ (false=true) by decide)] at H;exact H);clear H;have H:=H1;clear H1;obtain rfl:=Option.some.inj H;have p126:0≤(x28_2:Int):=of_decide_eq_true (by first|(with_reducible assumption)|assumption);have q126:x28_2 < (l0.length:Int):=of_decide_eq_true (by first|(with_reducible assumption)|assumption);obtain ⟨ad126,e126,hx126_0,hx126_1,hx126_2⟩:=at_T33 HR0.out x28_2 p126 q126;cases e126;replace hx126_0:=(HB.out.cell (World.block_lt_of_cell? w _ hx126_0)).trans hx126_0;replace hx126_1:=(HB.out.cell (World.block_lt_of_cell? w _ hx126_1)).trans hx126_1;replace hx126_2:=(HB.out.cell (World.block_lt_of_cell? w _ hx126_2)).trans hx126_2;replace p126:=eq_true p126;replace q126:=eq_true q126;go_wp2_with (first|((with_reducible refine gate_dst (N:=8) rfl ?_);refine box_event ?hg (N:=8) ?hd (cs:=#[.string (⟨#[]⟩:ByteArray),.int .i64 0,.string (⟨#[]⟩:ByteArray)]) (t:=33) ?hr ?_;(case hd=>rfl);(case hg=>rfl);(case hr=>first|(go_simp;done)|(go_simp;rfl));intro gb127 hg w23 hbox hb;have n0_:=Aside0.mk (below_step (by repeat (first|(with_reducible first|exact HB.out|apply bal|apply bdN|apply bd1)|exact HB.out)) hb);have n1_:=Aside0.mk (hbox);have n2_:=Aside0.mk ((by rw [hg];exact (below_size (by repeat (first|(with_reducible first|exact HB.out|apply bal|apply bdN|apply bd1)|exact HB.out))):w.heap.size≤gb127));have n3_:=Aside0.mk ((by rw [hg];exact (below_size (by repeat (first|(with_reducible first|exact HB.out|apply bal|apply bdN|apply bd1)|exact HB.out))):w.heap.size≤gb127));clear HB;have HB:=n0_;have BK127:=n1_;have GW127:=n2_;have GE127:=n3_;clear n0_ n1_ n2_ n3_;clear hb hbox hg;have hcz24_0:w23.cell? ⟨gb127,0,none⟩=some (.string (⟨#[]⟩:ByteArray)):=(blk_cell BK127.out 0).trans rfl;have hcz24_1:w23.cell? ⟨gb127,1,none⟩=some (.int .i64 0):=(blk_cell BK127.out 1).trans rfl;have hcz24_2:w23.cell? ⟨gb127,2,none⟩=some (.string (⟨#[]⟩:ByteArray)):=(blk_cell BK127.out 2).trans rfl;have hfz24_0:=blk_frozen BK127.out 0;have hfz24_1:=blk_frozen BK127.out 1;have hfz24_2:=blk_frozen BK127.out 2)|((with_reducible refine gate_callee (f:=50) rfl ?_);refine goesL_ (some 35) rfl rfl Tryd.func50 (by kernel_rfl) rfl #[.int .i64 ((rd_T33 l0 x28_2).f1)] rfl (by (try simp only [List.map_toArray,List.map_cons,List.map_nil]);first|done|rfl|(simp only [List.length_drop,List.length_take];rfl)) ?_;(with_reducible refine (tree_mode.calls ((rd_T33 l0 x28_2).f1) false _ A16.out).mono ?_);rintro e w' ⟨rfl,⟨nd,rfl⟩⟩;refine ⟨_,rfl,?_⟩));go_ret;exact ⟨by first|rfl|(simp [errW_none,errW_some] <;> rfl)|(simp [*,errW_none,errW_some] <;> rfl),by repeat (first|(with_reducible first|exact HB.out|apply bal|apply bdN|apply bd1|refine below_set ?_ GE127.out)|exact HB.out)⟩
         ·rw [if_neg c15] at H;exact absurd H (by simp)
        ·rw [if_neg c14] at H;exact absurd H (by simp)
       ·rw [if_neg c13] at H;have c13b0:decide (x28_2 < (l0.length:Int))=false:=decide_eq_false c13;clear c13;obtain rfl:=Option.some.inj H;go_wp2;go_ret;exact ⟨by first|rfl|(simp [errW_none,errW_some] <;> rfl)|(simp [*,errW_none,errW_some] <;> rfl),by repeat (first|(with_reducible first|exact HB.out|apply bal|apply bdN|apply bd1)|exact HB.out)⟩
    ·rw [if_neg c10] at H;have c10b0:(t125 == 0)=false:=beq_eq_false_iff_ne.mpr c10;have c10b1:(t125 != 0)=true:=bne_iff_ne.mpr c10;obtain rfl:=Option.some.inj H;obtain ⟨Ao25,co25,eo25⟩:=Kd.R_slice HO_3.out;subst eo25;go_wp2_with (first|((with_reducible refine gate_callee (f:=49) rfl ?_);refine goesL_ (some 22) rfl rfl Tryd.func49 (by kernel_rfl) rfl #[.slice Ao25 x3_1.length co25] rfl (by (try simp only [List.map_toArray,List.map_cons,List.map_nil]);first|done|rfl|(simp only [List.length_drop,List.length_take];rfl)) ?_;(with_reducible refine (tree_paths.calls k1 _ _ x3_1 t125 _ ?side1 ?side2 A9.out).mono ?_);(case side1=>repeat (first|exact (Kd.R_reads' HO_3.out).2.2|(with_reducible refine Kd.C_alloc ?_ _)|(with_reducible refine Kd.C_drewN ?_ _)|(with_reducible refine Kd.C_drew ?_)));(case side2=>exact (Kd.R_reads' HO_3.out).2.1);rintro e w26 ⟨rfl,hb⟩;refine ⟨_,rfl,?_⟩;have n0_:=Aside0.mk (Kd.R_below (by (with_reducible repeat (first|apply Kd.R_alloc|apply Kd.R_drewN|apply Kd.R_drew));exact HO_3.out) hb);have n1_:=Aside0.mk (below_step (by repeat (first|(with_reducible first|exact HB.out|apply bal|apply bdN|apply bd1)|exact HB.out)) hb);clear HO_3;clear HB;have HO_3:=n0_;have HB:=n1_;clear n0_ n1_;(try clear hb);(try clear hb2);(try clear hk);(try clear hi)));go_ret;exact ⟨by first|rfl|(simp [errW_none,errW_some] <;> rfl)|(simp [*,errW_none,errW_some] <;> rfl),by repeat (first|(with_reducible first|exact HB.out|apply bal|apply bdN|apply bd1)|exact HB.out)⟩
mutual
def barqueref09_Check.l0:Nat→List (S33)→List ByteArray→Int→Option (Int)
 | 0,_,_,_=>none
 | k + 1,x0,x3,x4=>if x4 < (x0.length:Int) then (if 0≤x4 then (if x3.length < 8796093022208 then (barqueref09_Check.l0 k x0 (x3 ++ [(rd_T33 x0 x4).f0]) (wrap64 (x4 + 1))) else (none)) else (none)) else ((barqueref09_together.f k x3).bind fun t160=>(if t160=0 then (barqueref09_Check.l1 k x0 0) else (some t160)))
def barqueref09_Check.l1:Nat→List (S33)→Int→Option (Int)
 | 0,_,_=>none
 | k + 1,x0,x6=>if x6 < (x0.length:Int) then (if 0≤x6 then (if ((rd_T33 x0 x6).f1) < 0 then (barqueref09_Check.j2 k x0 x6 true) else (barqueref09_Check.j2 k x0 x6 (decide (((rd_T33 x0 x6).f1) > 511)))) else (none)) else (some 0)
def barqueref09_Check.j2:Nat→List (S33)→Int→Bool→Option (Int)
 | 0,_,_,_=>none
 | k + 1,x0,x6,x45=>if x45=true then (some 11) else (if 0≤x6 then (if x6 < (x0.length:Int) then (if (((rd_T33 x0 x6).f2).size:Int) > 65536 then (some 4) else (barqueref09_Check.l1 k x0 (wrap64 (x6 + 1)))) else (none)) else (none))
end
def barqueref09_Check.f (k:Nat) (l0:List (S33)):Option (Int):=barqueref09_Check.l0 k l0 ([]:List ByteArray) 0
set_option maxHeartbeats 8000000 in
set_option maxRecDepth 100000 in
theorem barqueref09_Check.calls (k:Nat) (A0:Option Addr) (c0:Nat) (l0:List (S33)) (r:Int) (w:World) (hr0:Kd.C k33 w A0 l0.length l0) (hc0:l0.length≤c0) (h:barqueref09_Check.f k l0=some r) :
  Calls Tryd.prog 33 #[.slice A0 l0.length c0] w fun e w'=>e=.returned (.int .i64 r)∧Below w.heap.size w w':=by
 have HR0:=Aside0.mk hr0;have HC0:=Aside0.mk hc0;clear hr0 hc0;have HB:=Aside0.mk (Below.refl w.heap.size w);have H:(barqueref09_Check.l0 k l0 ([]:List ByteArray) 0)=some r:=h;clear h;have H':=Aside0.mk H;clear H;go_enter Tryd.func33,Tryd.ntmps33;go_wp2;go_loopg [3,4] k (fun kq v3 v4 w'=>∃ (x3_1:List ByteArray) (x4_1:Int),v4=.int .i64 x4_1∧Aside0 (barqueref09_Check.l0 kq l0 x3_1 x4_1=some r)∧Aside0 (kq≤k)∧Aside0 (Kd.R Kd.string 9 w' w.heap.size (fun _=>True) v3 x3_1)∧Aside0 (Below w.heap.size w w'))
 case atStart=>exact ⟨(([]:List ByteArray)),(0),(by first|rfl|(simp;done)|(simp [*];done)),H',⟨Nat.le_refl _⟩,⟨by first|exact Kd.R_nil _ _ _ _ _|exact Kd.N_nil _ _ _ _ _|exact Kd.V_nil _ _ _ _ _|exact Kd.Q_nil _ _ _ _ _|exact Kd.S_nil _ _ _ _ _⟩,⟨by repeat (first|(with_reducible first|exact HB.out|apply bal|apply bdN|apply bd1)|exact HB.out)⟩⟩
 case round =>
  clear H';obtain ⟨x3_1,x4_1,rfl,HA,HK1,HO_3,HB⟩:=hrel
  cases gk with
  | zero=>exact absurd HA.out (by simp [barqueref09_Check.l0])
  | succ k1 =>
   have H:=HA.out;clear HA;simp only [barqueref09_Check.l0] at H;by_cases c2:x4_1 < (l0.length:Int)
   ·rw [if_pos c2] at H;have c2b0:decide (x4_1 < (l0.length:Int))=true:=decide_eq_true c2;clear c2;by_cases c3:0≤x4_1
    ·rw [if_pos c3] at H;have c3b0:decide (0≤x4_1)=true:=decide_eq_true c3;clear c3;by_cases c4:x3_1.length < 8796093022208
     ·rw [if_pos c4] at H;have LMc4:=Aside0.mk c4;clear c4;obtain ⟨y157,hy157⟩:∃ y_:List ByteArray,y_=(x3_1 ++ [(rd_T33 l0 x4_1).f0]):=⟨_,rfl⟩;(replace H:(barqueref09_Check.l0 k1 l0 y157 (wrap64 (x4_1 + 1)))=some r:=by first|(rw [hy157];with_reducible exact H)|(have H2_:=(Option.bind_some _ _).symm.trans H;rw [hy157];with_reducible exact H2_)|(have H2_:=(Option.bind_some _ _).symm.trans H;with_reducible exact H2_)|with_reducible exact H|(rw [hy157];exact H)|exact H);have Ny157:=Aside0.mk hy157;clear hy157;have H':=Aside0.mk H;clear H;have p156:0≤(x4_1:Int):=of_decide_eq_true (by first|(with_reducible assumption)|assumption);have q156:x4_1 < (l0.length:Int):=of_decide_eq_true (by first|(with_reducible assumption)|assumption);obtain ⟨ad156,e156,hx156_0,hx156_1,hx156_2⟩:=at_T33 HR0.out x4_1 p156 q156;cases e156;replace hx156_0:=(HB.out.cell (World.block_lt_of_cell? w _ hx156_0)).trans hx156_0;replace hx156_1:=(HB.out.cell (World.block_lt_of_cell? w _ hx156_1)).trans hx156_1;replace hx156_2:=(HB.out.cell (World.block_lt_of_cell? w _ hx156_2)).trans hx156_2;replace p156:=eq_true p156;replace q156:=eq_true q156;go_wp2_with (first|((with_reducible refine gate_builtin (b:=.append) (xs:=#[.tmp 13,.tmp 19]) rfl ?_);at_builtin;refine Kd.R_append Kd.string (w0:=w) w.heap.size rfl (.tmp 13) (.tmp 19) 43 9 (.string ⟨#[]⟩) 16 rfl Tryd.underlying43 info9 rfl (by decide) (by omega) u3 x3_1 ((rd_T33 l0 x4_1).f0) [.string ((rd_T33 l0 x4_1).f0)] (fun _=>True) (fun _=>False) rfl rfl ?aP (fun _ hk=>hk.elim) ?aF ?aO ?aB ?aS ?aL ?_;(case aP=>exact rfl);(case aB=>exact (by repeat (first|(with_reducible first|exact HB.out|apply bal|apply bdN|apply bd1)|exact HB.out)));(case aF=>exact (fun _ _=>trivial));(case aO=>exact (by (with_reducible repeat (first|apply Kd.R_alloc|apply Kd.R_drewN|apply Kd.R_drew));exact HO_3.out));(case aS=>exact (below_size (by repeat (first|(with_reducible first|exact HB.out|apply bal|apply bdN|apply bd1)|exact HB.out))));(case aL=>have:=LMc4.out;omega);intro v158 w5 ho hb hg hat;rw [← Ny157.out] at ho;have n0_:=Aside0.mk (hb);have n1_:=Aside0.mk (ho);clear HB;clear HO_3;have HB:=n0_;have HO159:=n1_;clear n0_ n1_;clear ho hb hg hat));go_roundg k1
      case measure=>have:=HK1.out;omega
      case rel=>exact ⟨(y157),(wrap64 (x4_1 + 1)),(by first|rfl|(simp;done)|(simp [*];done)),H',⟨by have:=HK1.out;omega⟩,⟨by (with_reducible repeat (first|apply Kd.R_alloc|apply Kd.R_drewN|apply Kd.R_drew));exact HO159.out⟩,⟨by repeat (first|(with_reducible first|exact HB.out|apply bal|apply bdN|apply bd1)|exact HB.out)⟩⟩
     ·rw [if_neg c4] at H;exact absurd H (by simp)
    ·rw [if_neg c3] at H;exact absurd H (by simp)
   ·rw [if_neg c2] at H;have c2b0:decide (x4_1 < (l0.length:Int))=false:=decide_eq_false c2;clear c2;replace H:=Option.bind_eq_some_iff.mp H;obtain ⟨t160,A60,H⟩:=H;replace H:(if t160=0 then (barqueref09_Check.l1 k1 l0 0) else (some t160))=some r:=H;have A6:=Aside0.mk A60;clear A60;by_cases c7:t160=0
    ·rw [if_pos c7] at H;have c7b0:(t160 == 0)=true:=beq_iff_eq.mpr c7;have c7b1:(t160 != 0)=false:=bne_eq_false_iff_eq.mpr c7;clear c7;have H':=Aside0.mk H;clear H;obtain ⟨Ao8,co8,eo8⟩:=Kd.R_slice HO_3.out;subst eo8;go_wp2_with (first|((with_reducible refine gate_callee (f:=52) rfl ?_);refine goesL_ (some 22) rfl rfl Tryd.func52 (by kernel_rfl) rfl #[.slice Ao8 x3_1.length co8] rfl (by (try simp only [List.map_toArray,List.map_cons,List.map_nil]);first|done|rfl|(simp only [List.length_drop,List.length_take];rfl)) ?_;(with_reducible refine (barqueref09_together.calls k1 _ _ x3_1 t160 _ ?side1 ?side2 A6.out).mono ?_);(case side1=>repeat (first|exact (Kd.R_reads' HO_3.out).2.2|(with_reducible refine Kd.C_alloc ?_ _)|(with_reducible refine Kd.C_drewN ?_ _)|(with_reducible refine Kd.C_drew ?_)));(case side2=>exact (Kd.R_reads' HO_3.out).2.1);rintro e w9 ⟨rfl,hb⟩;refine ⟨_,rfl,?_⟩;have n0_:=Aside0.mk (Kd.R_below (by (with_reducible repeat (first|apply Kd.R_alloc|apply Kd.R_drewN|apply Kd.R_drew));exact HO_3.out) hb);have n1_:=Aside0.mk (below_step (by repeat (first|(with_reducible first|exact HB.out|apply bal|apply bdN|apply bd1)|exact HB.out)) hb);clear HO_3;clear HB;have HO_3:=n0_;have HB:=n1_;clear n0_ n1_;(try clear hb);(try clear hb2);(try clear hk);(try clear hi)));go_loopg [6] k1 (fun kq v6 w'=>∃ (x6_2:Int),v6=.int .i64 x6_2∧Aside0 (barqueref09_Check.l1 kq l0 x6_2=some r)∧Aside0 (kq≤k1)∧Aside0 (Below w.heap.size w w'))
     case atStart=>exact ⟨(0),(by first|rfl|(simp;done)|(simp [*];done)),H',⟨Nat.le_refl _⟩,⟨by repeat (first|(with_reducible first|exact HB.out|apply bal|apply bdN|apply bd1)|exact HB.out)⟩⟩
     case round =>
      clear H';(try clear p1);(try clear q1);(try clear hx1);(try clear c2);(try clear c2b0);(try clear p2);(try clear c3);(try clear c3b0);(try clear c4);(try clear c5);(try clear p6);(try clear c7);(try clear c7b0);(try clear c7b1);(try clear hx156_0);(try clear hx156_1);(try clear hx156_2);(try clear p156);(try clear q156);obtain ⟨x6_2,rfl,HA,HK2,HB⟩:=hrel
      cases gk with
      | zero=>exact absurd HA.out (by simp [barqueref09_Check.l1])
      | succ k2 =>
       have H:=HA.out;clear HA;simp only [barqueref09_Check.l1] at H;by_cases c10:x6_2 < (l0.length:Int)
       ·rw [if_pos c10] at H;have c10b0:decide (x6_2 < (l0.length:Int))=true:=decide_eq_true c10;clear c10;have HC11:=Aside0.mk H;clear H;go_upto_region 12 with (fail);go_cut [45] (fun v45 wc=>∃ (kq:Nat) (x45_10:Bool),v45=.bool x45_10∧Aside0 (barqueref09_Check.j2 kq l0 x6_2 x45_10=some r)∧Aside0 (kq≤k2)∧Aside0 (Below w.heap.size w wc))
        case first =>
         have H:=HC11.out;clear HC11;by_cases c12:0≤x6_2
         ·rw [if_pos c12] at H;have c12b0:decide (0≤x6_2)=true:=decide_eq_true c12;clear c12;(first|rw [c12b0]|(simp only [i64_w,i32_w];rw [c12b0])|skip);by_cases c13:((rd_T33 l0 x6_2).f1) < 0
          ·rw [if_pos c13] at H;have c13b0:decide (((rd_T33 l0 x6_2).f1) < 0)=true:=decide_eq_true c13;clear c13;have H':=Aside0.mk H;clear H;have p161:0≤(x6_2:Int):=of_decide_eq_true (by first|(with_reducible assumption)|assumption);have q161:x6_2 < (l0.length:Int):=of_decide_eq_true (by first|(with_reducible assumption)|assumption);obtain ⟨ad161,e161,hx161_0,hx161_1,hx161_2⟩:=at_T33 HR0.out x6_2 p161 q161;cases e161;replace hx161_0:=(HB.out.cell (World.block_lt_of_cell? w _ hx161_0)).trans hx161_0;replace hx161_1:=(HB.out.cell (World.block_lt_of_cell? w _ hx161_1)).trans hx161_1;replace hx161_2:=(HB.out.cell (World.block_lt_of_cell? w _ hx161_2)).trans hx161_2;replace p161:=eq_true p161;replace q161:=eq_true q161;go_wp2;go_meet
           case rel=>exact ⟨_,(true),(by first|rfl|(simp;done)|(simp [*];done)),H',⟨by have:=HK1.out;have:=HK2.out;first|omega|exact Nat.le_refl _⟩,⟨by repeat (first|(with_reducible first|exact HB.out|apply bal|apply bdN|apply bd1)|exact HB.out)⟩⟩
          ·rw [if_neg c13] at H;have c13b0:decide (((rd_T33 l0 x6_2).f1) < 0)=false:=decide_eq_false c13;clear c13;have H':=Aside0.mk H;clear H;have p161:0≤(x6_2:Int):=of_decide_eq_true (by first|(with_reducible assumption)|assumption);have q161:x6_2 < (l0.length:Int):=of_decide_eq_true (by first|(with_reducible assumption)|assumption);obtain ⟨ad161,e161,hx161_0,hx161_1,hx161_2⟩:=at_T33 HR0.out x6_2 p161 q161;cases e161;replace hx161_0:=(HB.out.cell (World.block_lt_of_cell? w _ hx161_0)).trans hx161_0;replace hx161_1:=(HB.out.cell (World.block_lt_of_cell? w _ hx161_1)).trans hx161_1;replace hx161_2:=(HB.out.cell (World.block_lt_of_cell? w _ hx161_2)).trans hx161_2;replace p161:=eq_true p161;replace q161:=eq_true q161;have p162:0≤(x6_2:Int):=of_decide_eq_true (by first|(with_reducible assumption)|assumption);have q162:x6_2 < (l0.length:Int):=of_decide_eq_true (by first|(with_reducible assumption)|assumption);obtain ⟨ad162,e162,hx162_0,hx162_1,hx162_2⟩:=at_T33 HR0.out x6_2 p162 q162;obtain rfl:ad161=ad162:=(by injection e162);replace hx162_0:=(HB.out.cell (World.block_lt_of_cell? w _ hx162_0)).trans hx162_0;replace hx162_1:=(HB.out.cell (World.block_lt_of_cell? w _ hx162_1)).trans hx162_1;replace hx162_2:=(HB.out.cell (World.block_lt_of_cell? w _ hx162_2)).trans hx162_2;replace p162:=eq_true p162;replace q162:=eq_true q162;go_wp2;go_meet
           case rel=>exact ⟨_,(decide (((rd_T33 l0 x6_2).f1) > 511)),(by first|rfl|(simp;done)|(simp [*];done)),H',⟨by have:=HK1.out;have:=HK2.out;first|omega|exact Nat.le_refl _⟩,⟨by repeat (first|(with_reducible first|exact HB.out|apply bal|apply bdN|apply bd1)|exact HB.out)⟩⟩
         ·rw [if_neg c12] at H;exact absurd H (by simp)
        case rest =>
         clear HC11;(try clear c1);(try clear p1);(try clear q1);(try clear hx1);(try clear c2);(try clear c2b0);(try clear p2);(try clear c3);(try clear c3b0);(try clear c4);(try clear c5);(try clear p6);(try clear c7);(try clear c7b0);(try clear c7b1);(try clear c10);(try clear c10b0);(try clear c12);(try clear c12b0);(try clear c13);(try clear c13b0);(try clear hx156_0);(try clear hx156_1);(try clear hx156_2);(try clear hx161_0);(try clear hx161_1);(try clear hx161_2);(try clear hx162_0);(try clear hx162_1);(try clear hx162_2);(try clear p1);(try clear p156);(try clear p161);(try clear p162);(try clear p2);(try clear p6);(try clear q1);(try clear q156);(try clear q161);(try clear q162);obtain ⟨kq,x45_10,rfl,HA,HJ10,HB⟩:=hcut
         cases kq with
         | zero=>exact absurd HA.out (by simp [barqueref09_Check.j2])
         | succ kj10 =>
          have H:=HA.out;clear HA;simp only [barqueref09_Check.j2] at H;by_cases c14:x45_10=true
          ·subst c14;(have H1:(some 11)=some r:=by rw [if_pos rfl] at H;exact H);clear H;have H:=H1;clear H1;obtain rfl:=Option.some.inj H;go_wp2;go_ret;exact ⟨by first|rfl|(simp [errW_none,errW_some] <;> rfl)|(simp [*,errW_none,errW_some] <;> rfl),by repeat (first|(with_reducible first|exact HB.out|apply bal|apply bdN|apply bd1)|exact HB.out)⟩
          ·replace c14:=Bool.eq_false_iff.mpr c14;subst c14;(have H1:(if 0≤x6_2 then (if x6_2 < (l0.length:Int) then (if (((rd_T33 l0 x6_2).f2).size:Int) > 65536 then (some 4) else (barqueref09_Check.l1 kj10 l0 (wrap64 (x6_2 + 1)))) else (none)) else (none))=some r:=by rw [if_neg (show ¬ (false=true) by decide)] at H;exact H);clear H;have H:=H1;clear H1;by_cases c15:0≤x6_2
           ·rw [if_pos c15] at H;have c15b0:decide (0≤x6_2)=true:=decide_eq_true c15;clear c15;by_cases c16:x6_2 < (l0.length:Int)
            ·rw [if_pos c16] at H;have c16b0:decide (x6_2 < (l0.length:Int))=true:=decide_eq_true c16;clear c16;by_cases c17:(((rd_T33 l0 x6_2).f2).size:Int) > 65536
             ·rw [if_pos c17] at H;have c17b0:decide (65536 < (((rd_T33 l0 x6_2).f2).size:Int))=true:=decide_eq_true c17;have c17b1:decide (65536 < ((rd_T33 l0 x6_2).f2).size)=true:=decide_eq_true (by omega);clear c17;obtain rfl:=Option.some.inj H;have p163:0≤(x6_2:Int):=of_decide_eq_true (by first|(with_reducible assumption)|assumption);have q163:x6_2 < (l0.length:Int):=of_decide_eq_true (by first|(with_reducible assumption)|assumption);obtain ⟨ad163,e163,hx163_0,hx163_1,hx163_2⟩:=at_T33 HR0.out x6_2 p163 q163;cases e163;replace hx163_0:=(HB.out.cell (World.block_lt_of_cell? w _ hx163_0)).trans hx163_0;replace hx163_1:=(HB.out.cell (World.block_lt_of_cell? w _ hx163_1)).trans hx163_1;replace hx163_2:=(HB.out.cell (World.block_lt_of_cell? w _ hx163_2)).trans hx163_2;replace p163:=eq_true p163;replace q163:=eq_true q163;go_wp2;go_ret;exact ⟨by first|rfl|(simp [errW_none,errW_some] <;> rfl)|(simp [*,errW_none,errW_some] <;> rfl),by repeat (first|(with_reducible first|exact HB.out|apply bal|apply bdN|apply bd1)|exact HB.out)⟩
             ·rw [if_neg c17] at H;have c17b0:decide (65536 < (((rd_T33 l0 x6_2).f2).size:Int))=false:=decide_eq_false c17;have c17b1:decide (65536 < ((rd_T33 l0 x6_2).f2).size)=false:=decide_eq_false (by omega);clear c17;have H':=Aside0.mk H;clear H;have p163:0≤(x6_2:Int):=of_decide_eq_true (by first|(with_reducible assumption)|assumption);have q163:x6_2 < (l0.length:Int):=of_decide_eq_true (by first|(with_reducible assumption)|assumption);obtain ⟨ad163,e163,hx163_0,hx163_1,hx163_2⟩:=at_T33 HR0.out x6_2 p163 q163;cases e163;replace hx163_0:=(HB.out.cell (World.block_lt_of_cell? w _ hx163_0)).trans hx163_0;replace hx163_1:=(HB.out.cell (World.block_lt_of_cell? w _ hx163_1)).trans hx163_1;replace hx163_2:=(HB.out.cell (World.block_lt_of_cell? w _ hx163_2)).trans hx163_2;replace p163:=eq_true p163;replace q163:=eq_true q163;go_wp2;go_roundg kj10
              case measure=>have:=HK1.out;have:=HK2.out;have:=HJ10.out;omega
              case rel=>exact ⟨(wrap64 (x6_2 + 1)),(by first|rfl|(simp;done)|(simp [*];done)),H',⟨by have:=HK1.out;have:=HK2.out;have:=HJ10.out;omega⟩,⟨by repeat (first|(with_reducible first|exact HB.out|apply bal|apply bdN|apply bd1)|exact HB.out)⟩⟩
            ·rw [if_neg c16] at H;exact absurd H (by simp)
           ·rw [if_neg c15] at H;exact absurd H (by simp)
       ·rw [if_neg c10] at H;have c10b0:decide (x6_2 < (l0.length:Int))=false:=decide_eq_false c10;clear c10;obtain rfl:=Option.some.inj H;go_wp2;go_ret;exact ⟨by first|rfl|(simp [errW_none,errW_some] <;> rfl)|(simp [*,errW_none,errW_some] <;> rfl),by repeat (first|(with_reducible first|exact HB.out|apply bal|apply bdN|apply bd1)|exact HB.out)⟩
    ·rw [if_neg c7] at H;have c7b0:(t160 == 0)=false:=beq_eq_false_iff_ne.mpr c7;have c7b1:(t160 != 0)=true:=bne_iff_ne.mpr c7;obtain rfl:=Option.some.inj H;obtain ⟨Ao18,co18,eo18⟩:=Kd.R_slice HO_3.out;subst eo18;go_wp2_with (first|((with_reducible refine gate_callee (f:=52) rfl ?_);refine goesL_ (some 22) rfl rfl Tryd.func52 (by kernel_rfl) rfl #[.slice Ao18 x3_1.length co18] rfl (by (try simp only [List.map_toArray,List.map_cons,List.map_nil]);first|done|rfl|(simp only [List.length_drop,List.length_take];rfl)) ?_;(with_reducible refine (barqueref09_together.calls k1 _ _ x3_1 t160 _ ?side1 ?side2 A6.out).mono ?_);(case side1=>repeat (first|exact (Kd.R_reads' HO_3.out).2.2|(with_reducible refine Kd.C_alloc ?_ _)|(with_reducible refine Kd.C_drewN ?_ _)|(with_reducible refine Kd.C_drew ?_)));(case side2=>exact (Kd.R_reads' HO_3.out).2.1);rintro e w19 ⟨rfl,hb⟩;refine ⟨_,rfl,?_⟩;have n0_:=Aside0.mk (Kd.R_below (by (with_reducible repeat (first|apply Kd.R_alloc|apply Kd.R_drewN|apply Kd.R_drew));exact HO_3.out) hb);have n1_:=Aside0.mk (below_step (by repeat (first|(with_reducible first|exact HB.out|apply bal|apply bdN|apply bd1)|exact HB.out)) hb);clear HO_3;clear HB;have HO_3:=n0_;have HB:=n1_;clear n0_ n1_;(try clear hb);(try clear hb2);(try clear hk);(try clear hi)));go_ret;exact ⟨by first|rfl|(simp [errW_none,errW_some] <;> rfl)|(simp [*,errW_none,errW_some] <;> rfl),by repeat (first|(with_reducible first|exact HB.out|apply bal|apply bdN|apply bd1)|exact HB.out)⟩
end Go.Proofs.YtmeofdpmddjbgaaDoor.G
end
section
namespace Go.Proofs.YtmeofdpmddjbgaaDoor.G
open Go.RowKit Go.Proofs.YtmeofdpmddjbgaaDoorW.PrintWords Go.Proofs.YtmeofdpmddjbgaaDoorW.PrintLast Go.Proofs.YtmeofdpmddjbgaaDoorW.PrintMore
set_option linter.unusedVariables false
set_option linter.unusedSimpArgs false
theorem rdF_nat (l:List S33) (i:Nat) (h:i < l.length):rd_T33 l (i:Int)=l[i]:=by
 simp [rd_T33,List.getD_eq_getElem?_getD,h]
def modesE:List S33→Int
 | []=>0
 | x :: l=>if x.f1 < 0∨511 < x.f1 then 11 else if 65536 < x.f2.size then 4 else modesE l
def checkE (l:List S33):Int:=if pathsE (l.map (·.f0))=0 then modesE l else pathsE (l.map (·.f0))
theorem check_l1 (l:List S33) (hl:l.length≤4294967296):∀ (d i:Nat),l.length - i=d→i≤l.length →
  Ev (fun k=>tree_Check.l1 k l l.length i) (modesE (l.drop i)):=by
 intro d
 induction d with
 | zero =>
  intro i hd hi
  have e:i=l.length:=by omega
  subst e
  apply Ev.step
  ·intro k;rw [tree_Check.l1]
  have c1:¬ ((l.length:Int) < (l.length:Int)):=by omega
  simp only [c1,↓reduceIte]
  rw [List.drop_eq_nil_of_le (Nat.le_refl _)]
  exact Ev.now _
 | succ d ih =>
  intro i hd hi
  have hlt:i < l.length:=by omega
  apply Ev.step
  ·intro k;rw [tree_Check.l1]
  have c1:((i:Int) < (l.length:Int)):=by omega
  have c2:(0:Int)≤(i:Int):=by omega
  have hw:wrap64 ((i:Int) + 1)=((i + 1:Nat):Int):=by rw [w64_ (by omega) (by omega)];omega
  simp only [c1,c2,↓reduceIte,rdF_nat l i hlt,hw,tree_mode.f]
  rw [List.drop_eq_getElem_cons hlt,modesE]
  obtain ⟨x,hx⟩:∃ x,l[i]'hlt=x:=⟨_,rfl⟩
  rw [hx]
  by_cases h1:x.f1 < 0
  ·have g1:¬ x.f1 ≥ 0:=by omega
   simp only [g1,h1,true_or,↓reduceIte,Option.bind_some,Bool.false_eq_true]
   exact Ev.now _
  ·have g1:x.f1 ≥ 0:=by omega
   by_cases h2:511 < x.f1
   ·have g2:decide (x.f1≤511)=false:=by simp;omega
    simp only [g1,g2,h1,h2,or_true,↓reduceIte,Option.bind_some,Bool.false_eq_true]
    exact Ev.now _
   ·have g2:decide (x.f1≤511)=true:=by simp;omega
    simp only [g1,g2,h1,h2,or_self,↓reduceIte,Option.bind_some]
    by_cases h3:65536 < x.f2.size
    ·have g3:(x.f2.size:Int) > 65536:=by omega
     simp only [g3,h3,↓reduceIte]
     exact Ev.now _
    ·have g3:¬ (x.f2.size:Int) > 65536:=by omega
     simp only [g3,h3,↓reduceIte]
     exact ih (i + 1) (by omega) (by omega)
theorem check_l0 (l:List S33) (hl:l.length≤4294967296):∀ (d i:Nat) (acc:List ByteArray),l.length - i=d→i≤l.length→acc=(l.take i).map (·.f0) →
  Ev (fun k=>tree_Check.l0 k l acc l l.length i) (checkE l):=by
 intro d
 induction d with
 | zero =>
  intro i acc hd hi ha
  have e:i=l.length:=by omega
  subst e
  apply Ev.step
  ·intro k;rw [tree_Check.l0]
  have c1:¬ ((l.length:Int) < (l.length:Int)):=by omega
  simp only [c1,↓reduceIte]
  rw [List.take_length] at ha
  subst ha
  refine Ev.bind (paths_ev _ (by rw [List.length_map];exact hl)) ?_
  unfold checkE
  by_cases h:pathsE (l.map (·.f0))=0
  ·simp only [h,↓reduceIte]
   have h1:=check_l1 l hl l.length 0 (by omega) (by omega)
   simpa using h1
  ·simp only [h,↓reduceIte]
   exact Ev.now _
 | succ d ih =>
  intro i acc hd hi ha
  have hlt:i < l.length:=by omega
  apply Ev.step
  ·intro k;rw [tree_Check.l0]
  have c1:((i:Int) < (l.length:Int)):=by omega
  have c2:(0:Int)≤(i:Int):=by omega
  have c3:acc.length < 8796093022208:=by rw [ha,List.length_map,List.length_take];omega
  have hw:wrap64 ((i:Int) + 1)=((i + 1:Nat):Int):=by rw [w64_ (by omega) (by omega)];omega
  simp only [c1,c2,c3,↓reduceIte,rdF_nat l i hlt,hw]
  refine ih (i + 1) _ (by omega) (by omega) ?_
  rw [ha,List.take_succ_eq_append_getElem hlt,List.map_append]
  rfl
theorem check_ev (l:List S33) (hl:l.length≤4294967296):Ev (fun k=>tree_Check.f k l) (checkE l):=by
 unfold tree_Check.f
 have h:=check_l0 l hl l.length 0 [] (by omega) (by omega) rfl
 simpa using h
theorem refcheck_l1 (l:List S33) (hl:l.length≤4294967296):∀ (d i:Nat),l.length - i=d→i≤l.length →
  Ev (fun k=>barqueref09_Check.l1 k l i) (modesE (l.drop i)):=by
 intro d
 induction d with
 | zero =>
  intro i hd hi
  have e:i=l.length:=by omega
  subst e
  apply Ev.step
  ·intro k;rw [barqueref09_Check.l1]
  have c1:¬ ((l.length:Int) < (l.length:Int)):=by omega
  simp only [c1,↓reduceIte]
  rw [List.drop_eq_nil_of_le (Nat.le_refl _)]
  exact Ev.now _
 | succ d ih =>
  intro i hd hi
  have hlt:i < l.length:=by omega
  apply Ev.step
  ·intro k;rw [barqueref09_Check.l1]
  have c1:((i:Int) < (l.length:Int)):=by omega
  have c2:(0:Int)≤(i:Int):=by omega
  have hw:wrap64 ((i:Int) + 1)=((i + 1:Nat):Int):=by rw [w64_ (by omega) (by omega)];omega
  have hj:∀ b:Bool,b=decide ((l[i]'hlt).f1 < 0∨511 < (l[i]'hlt).f1)→Ev (fun k=>barqueref09_Check.j2 k l i b) (modesE (l.drop i)):=by
   intro b hb
   apply Ev.step
   ·intro k;rw [barqueref09_Check.j2]
   rw [List.drop_eq_getElem_cons hlt,modesE]
   simp only [c1,c2,hw,↓reduceIte,rdF_nat l i hlt]
   cases b with
   | true =>
    have h1:(l[i]'hlt).f1 < 0∨511 < (l[i]'hlt).f1:=of_decide_eq_true hb.symm
    simp only [h1,↓reduceIte]
    exact Ev.now _
   | false =>
    have h1:¬ ((l[i]'hlt).f1 < 0∨511 < (l[i]'hlt).f1):=of_decide_eq_false hb.symm
    simp only [h1,Bool.false_eq_true,↓reduceIte]
    by_cases h3:65536 < (l[i]'hlt).f2.size
    ·have g3:((l[i]'hlt).f2.size:Int) > 65536:=by omega
     simp only [g3,h3,↓reduceIte]
     exact Ev.now _
    ·have g3:¬ ((l[i]'hlt).f2.size:Int) > 65536:=by omega
     simp only [g3,h3,↓reduceIte]
     exact ih (i + 1) (by omega) (by omega)
  simp only [c1,c2,↓reduceIte,rdF_nat l i hlt]
  by_cases h1:(l[i]'hlt).f1 < 0
  ·simp only [h1,↓reduceIte]
   exact hj true (by simp [h1])
  ·simp only [h1,↓reduceIte]
   exact hj _ (by simp [h1])
theorem refcheck_l0 (l:List S33) (hl:l.length≤4294967296):∀ (d i:Nat) (acc:List ByteArray),l.length - i=d→i≤l.length→acc=(l.take i).map (·.f0) →
  Ev (fun k=>barqueref09_Check.l0 k l acc i) (checkE l):=by
 intro d
 induction d with
 | zero =>
  intro i acc hd hi ha
  have e:i=l.length:=by omega
  subst e
  apply Ev.step
  ·intro k;rw [barqueref09_Check.l0]
  have c1:¬ ((l.length:Int) < (l.length:Int)):=by omega
  simp only [c1,↓reduceIte]
  rw [List.take_length] at ha
  subst ha
  refine Ev.bind (together_ev _ (by rw [List.length_map];exact hl)) ?_
  unfold checkE
  by_cases h:pathsE (l.map (·.f0))=0
  ·simp only [h,↓reduceIte]
   have h1:=refcheck_l1 l hl l.length 0 (by omega) (by omega)
   simpa using h1
  ·simp only [h,↓reduceIte]
   exact Ev.now _
 | succ d ih =>
  intro i acc hd hi ha
  have hlt:i < l.length:=by omega
  apply Ev.step
  ·intro k;rw [barqueref09_Check.l0]
  have c1:((i:Int) < (l.length:Int)):=by omega
  have c2:(0:Int)≤(i:Int):=by omega
  have c3:acc.length < 8796093022208:=by rw [ha,List.length_map,List.length_take];omega
  have hw:wrap64 ((i:Int) + 1)=((i + 1:Nat):Int):=by rw [w64_ (by omega) (by omega)];omega
  simp only [c1,c2,c3,↓reduceIte,rdF_nat l i hlt,hw]
  refine ih (i + 1) _ (by omega) (by omega) ?_
  rw [ha,List.take_succ_eq_append_getElem hlt,List.map_append]
  rfl
theorem refcheck_ev (l:List S33) (hl:l.length≤4294967296):Ev (fun k=>barqueref09_Check.f k l) (checkE l):=by
 unfold barqueref09_Check.f
 have h:=refcheck_l0 l hl l.length 0 [] (by omega) (by omega) rfl
 simpa using h
end Go.Proofs.YtmeofdpmddjbgaaDoor.G
end
section
namespace Go.Proofs.YtmeofdpmddjbgaaDoor.Bld
open Go.RowKit Go.Proofs.YtmeofdpmddjbgaaDoorW.PrintWords
set_option linter.unusedVariables false
theorem infoByte:(Tryd.prog.info? 5).map (fun i=>(i.zero,i.size,i.bytes))=some (some (.int .u8 0),1,1):=by kernel_rfl
theorem sizeBuilder:(Tryd.prog.info? 54).map (fun i=>i.size)=some 2:=by kernel_rfl
theorem liesBuilder:liesAt Tryd.prog Tryd.prog.depth 54 (2 / Tryd.prog.cellsOf 54) 0 54 1=true:=by kernel_rfl
set_option maxHeartbeats 1000000 in
set_option maxRecDepth 100000 in
theorem copyCheck_used (b:Nat) (w:World) (h0:w.cell? ⟨b,0,none⟩=some (.pointer (some ⟨b,0,none⟩))) :
  Calls Tryd.prog 51 #[.pointer (some ⟨b,0,none⟩)] w fun e w'=>e=.returned (.tuple #[])∧w'=w:=by
 obtain ⟨j,hj,_⟩:=Option.map_eq_some_iff.1 sizeBuilder
 go_enter Tryd.func51,Tryd.ntmps51
 go_wp2
 rw [Lib.run_neq_ptr_same w _ Tryd.underlying52 hj]
 go_wp2
 go_end0
 exact ⟨rfl,rfl⟩
set_option maxHeartbeats 1000000 in
set_option maxRecDepth 100000 in
theorem copyCheck_fresh (b:Nat) (w:World) (h0:w.cell? ⟨b,0,none⟩=some (.pointer none)) (hsh:w.shape? b=some (54,2)) (hfz:w.frozen? ⟨b,0,none⟩=false) :
  Calls Tryd.prog 51 #[.pointer (some ⟨b,0,none⟩)] w fun e w'=>e=.returned (.tuple #[])∧w'=w.setCell ⟨b,0,none⟩ (.pointer (some ⟨b,0,none⟩)):=by
 obtain ⟨j,hj,hjs⟩:=Option.map_eq_some_iff.1 sizeBuilder
 go_enter Tryd.func51,Tryd.ntmps51
 go_wp2
 rw [Lib.run_to_unsafe w ⟨b,0,none⟩ Tryd.underlying52 Tryd.underlying99 hj (by rw [hjs];decide) hsh (Nat.zero_lt_succ 1)]
 simp only [Result.andThen]
 rw [Oper.upon_value]
 go_wp2
 rw [run_callFunc_extern Tryd.func72 (by kernel_rfl) (by kernel_rfl) (by kernel_rfl) (e:=Extern.AbiNoEscape.same) (by kernel_rfl)]
 rw [Lib.run_noEscape]
 simp only [Result.andThen]
 rw [Oper.upon_value]
 go_wp2
 rw [Lib.run_from_unsafe w ⟨b,0,none⟩ Tryd.underlying99 Tryd.underlying52 hj hsh liesBuilder]
 simp only [Result.andThen]
 rw [Oper.upon_value]
 go_wp2
 go_end0
 exact ⟨rfl,rfl⟩
theorem copyCheck (B b:Nat) (bs:List Value) (w:World) (h:Lib.IsBuilder 54 5 B b bs w) :
  Calls Tryd.prog 51 #[.pointer (some ⟨b,0,none⟩)] w fun e w'=>e=.returned (.tuple #[])∧(Lib.BuilderAt 54 5 B b (.pointer (some ⟨b,0,none⟩)) bs w'∧Below B w w'∧Lib.OthersKept 5 (some b) w w'):=by
 rcases h with h|h
 ·refine (copyCheck_fresh b w h.cell0 h.shape h.frozen0).mono ?_
  rintro e w' ⟨rfl,rfl⟩
  exact ⟨rfl,h.used _,(Below.refl B w).setCell (p:=⟨b,0,none⟩) h.1 _,(Lib.OthersKept.refl _ _ w).setCell ⟨b,0,none⟩ rfl _⟩
 ·refine (copyCheck_used b w h.cell0).mono ?_
  rintro e w' ⟨rfl,rfl⟩
  exact ⟨rfl,h,Below.refl B _,Lib.OthersKept.refl _ _ _⟩
set_option maxHeartbeats 2000000 in
set_option maxRecDepth 100000 in
theorem writeString (B b:Nat) (bs:List Value) (s:ByteArray) (w:World) (h:Lib.IsBuilder 54 5 B b bs w) (hlen:bs.length + s.size≤140737488355328) (hBw:B≤w.heap.size) :
  Calls Tryd.prog 30 #[.pointer (some ⟨b,0,none⟩),.string s] w fun e w'=>e=.returned (.tuple #[.int .i64 s.size,.nilIface])∧(Lib.BuilderAt 54 5 B b (.pointer (some ⟨b,0,none⟩)) (bs ++ Lib.strCells s) w'∧Below B w w'∧Lib.OthersKept 5 (some b) w w'):=by
 obtain ⟨i0,hi,hz0,hz1,hz2⟩:=info_parts infoByte
 go_enter Tryd.func30,Tryd.ntmps30
 go_wp2_with (go_at_call 51;refine (copyCheck B b bs _ h).mono ?_)
 rintro e w1 ⟨rfl,h1,hb1,hk1⟩
 obtain ⟨hB,v,hbk,hown,hne⟩:=h1
 have c0:w1.cell? ⟨b,0,none⟩=some (.pointer (some ⟨b,0,none⟩)):=by rw [Lib.cell_of_heap hbk];rfl
 have c1:w1.cell? ⟨b,1,none⟩=some v:=by rw [Lib.cell_of_heap hbk];rfl
 go_wp2_with (at_builtin;refine Lib.wpList_append_own_string _ rfl _ _ 31 9 rfl B 5 i0 Tryd.underlying31 Tryd.underlying9 hi hz0 hz1 hz2 _ _ _ rfl hown s rfl ?c3 ?c4 ?c5 ?_)
 case c3=>unfold maxLen;omega
 case c4=>omega
 case c5=>have:=hb1.size;omega
 intro v' w2 hown' hgrow _
 have hlt:b < w1.heap.size:=by
  rcases Nat.lt_or_ge b w1.heap.size with h'|h'
  ·exact h'
  ·simp [Array.getElem?_eq_none h'] at hbk
 have hb2:w2.heap[b]?=some (.cells #[.pointer (some ⟨b,0,none⟩),v] 54 (0,0)):=by
  rw [hgrow.block b hlt (fun e=>hne e.symm)]
  exact hbk
 have d0:w2.cell? ⟨b,0,none⟩=some (.pointer (some ⟨b,0,none⟩)):=by rw [Lib.cell_of_heap hb2];rfl
 have d1:w2.cell? ⟨b,1,none⟩=some v:=by rw [Lib.cell_of_heap hb2];rfl
 have f1:w2.frozen? ⟨b,1,none⟩=false:=Lib.frozen_of_heap hb2 1
 obtain ⟨ao,n',cap,rfl⟩:∃ ao n' cap,v'=.slice ao n' cap:=by
  rcases hown'.2 with ⟨hv,_⟩|⟨g,cap,cur,hv,_⟩
  ·exact ⟨_,_,_,hv⟩
  ·exact ⟨_,_,_,hv⟩
 go_wp2
 go_ret2
 refine ⟨rfl,?_,?_,(hk1.grown hgrow (Lib.ownsRowF_kind (World.ownsRowF_of hown))).setCell ⟨b,1,none⟩ rfl _⟩
 ·exact Lib.BuilderAt.put (T:=54) (e:=5) hB hb2 (bs':=bs ++ Lib.strCells s) (by simpa [Lib.strCells_length] using hown') (by decide)
 ·exact (hb1.grown hgrow (by have:=hb1.size;omega) (fun k hk=>(hown.lt k hk).1)).setCell (p:=⟨b,1,none⟩) hB _

theorem kept_of_below {e:TypeId} {b:Option Nat} {w w':World} (h:Below w.heap.size w w'):Lib.OthersKept e b w w':=fun k o hk _ _=>(h.block k (Array.getElem?_eq_some_iff.1 hk).1).trans hk

theorem isB_below {T e:TypeId} {B b:Nat} {bs:List Value} {w w':World} (h:Lib.IsBuilder T e B b bs w) (hb:Below w.heap.size w w'):Lib.IsBuilder T e B b bs w':=by
 have key:∀ p,Lib.BuilderAt T e B b p bs w→Lib.BuilderAt T e B b p bs w':=fun p hp=>by
  have hlt:=hp.lt
  obtain ⟨hB,v,hbk,hown,hne⟩:=hp
  exact ⟨hB,v,(hb.block b hlt).trans hbk,own_move hown (fun k hk=>hb.block k (own_lt hown k hk)),hne⟩
 rcases h with h|h
 ·exact .inl (key _ h)
 ·exact .inr (key _ h)
theorem isB_lt {T e:TypeId} {B b:Nat} {bs:List Value} {w:World} (h:Lib.IsBuilder T e B b bs w):b < w.heap.size:=by
 rcases h with h|h
 ·exact h.lt
 ·exact h.lt
theorem keepX {w w':World} {g gx:Nat} {cs:Array Value} {t:TypeId} (hk:Lib.OthersKept 5 (some g) w w') (hx:w.heap[gx]?=some (.cells cs t (0,0))) (hne:gx ≠ g) (ht:t ≠ 5):w'.heap[gx]?=some (.cells cs t (0,0)) :=
 hk gx _ hx (fun e=>hne (Option.some.inj e)) (fun c fz e=>by injection e with _ e2 _;exact ht e2)
theorem szl_ (s:ByteArray):s.data.toList.length=s.size:=by simp
theorem isB_wrote {T e:TypeId} {B b:Nat} {acc:List UInt8} {s:ByteArray} {w:World} (h:Lib.BuilderAt T e B b (.pointer (some ⟨b,0,none⟩)) (Lib.byteCells acc ++ Lib.strCells s) w):Lib.IsBuilder T e B b (Lib.byteCells (acc ++ s.data.toList)) w:=by
 have e2:Lib.byteCells (acc ++ s.data.toList)=Lib.byteCells acc ++ Lib.strCells s:=by simp [Lib.byteCells,Lib.strCells]
 rw [e2]
 exact .inr h
end Go.Proofs.YtmeofdpmddjbgaaDoor.Bld
end
section
namespace Go.Proofs.YtmeofdpmddjbgaaDoor.G
open Go.RowKit Go.Proofs.YtmeofdpmddjbgaaDoorW.PrintWords Go.Proofs.YtmeofdpmddjbgaaDoorW.PrintLast Go.Proofs.YtmeofdpmddjbgaaDoorW.PrintMore
attribute [local go_sem] max2_int min2_int max_two min_two max_three min_three max_four min_four   
set_option linter.unusedVariables false
set_option linter.unusedSimpArgs false
set_option maxHeartbeats 2000000 in
set_option maxRecDepth 100000 in

theorem image_Of_num.calls (k:Nat) (n:Int) (s:ByteArray) (e:Int) (B b:Nat) (acc:List UInt8) (w:World) (hn:code_Num.f k n=some (s,e)) (h:Lib.IsBuilder 54 5 B b (Lib.byteCells acc) w) (hlen:acc.length + s.size≤140737488355328) (hB:B≤w.heap.size) :
  Calls Tryd.prog 28 #[.int .i64 n,.pointer (some ⟨b,0,none⟩)] w fun en w'=>en=.returned (.tuple #[])∧Lib.IsBuilder 54 5 B b (Lib.byteCells (acc ++ s.data.toList)) w'∧Below B w w'∧Lib.OthersKept 5 (some b) w w':=by
 go_enter Tryd.func28,Tryd.ntmps28;go_wp2_with (go_at_call 29;refine (code_Num.calls k n s e _ hn).mono ?_;rintro en w1 ⟨rfl,hb1⟩);have h1:=Go.Proofs.YtmeofdpmddjbgaaDoor.Bld.isB_below h hb1;(have hl1:(Lib.byteCells acc).length + s.size≤140737488355328:=by rw [Lib.byteCells_length];exact hlen);(have hB1:B≤w1.heap.size:=by have:=hb1.size;omega);go_wp2_with (go_at_call 30;refine (Go.Proofs.YtmeofdpmddjbgaaDoor.Bld.writeString B b _ s _ h1 hl1 hB1).mono ?_;rintro en w2 ⟨rfl,h2,hb2,hk2⟩);go_end0;exact ⟨rfl,Go.Proofs.YtmeofdpmddjbgaaDoor.Bld.isB_wrote h2,(hb1.mono hB).trans hb2,(Go.Proofs.YtmeofdpmddjbgaaDoor.Bld.kept_of_below hb1).trans hk2⟩
theorem rdG_nat (l:List S33) (i:Nat) (h:i < l.length):rd_T33 l (i:Int)=l[i]:=by
 unfold rd_T33
 simp [List.getD_eq_getElem?_getD,h]
def imgHead (k:Nat):List S33→List UInt8→Option (List UInt8)
 | [],acc=>some acc
 | x :: l,acc=>(code_Num.f k (x.f0.size:Int)).bind fun s1=>(code_Num.f k x.f1).bind fun s2=>(code_Num.f k (x.f2.size:Int)).bind fun s3 =>
   if acc.length + s1.1.size + x.f0.size + s2.1.size + s3.1.size≤140737488355328 then imgHead k l (acc ++ s1.1.data.toList ++ x.f0.data.toList ++ s2.1.data.toList ++ s3.1.data.toList) else none
def imgData:List S33→List UInt8→Option (ByteArray × Int)
 | [],acc=>some (⟨acc.toArray⟩,0)
 | x :: l,acc=>if acc.length≤524288 then (if 524288 - (acc.length:Int) < (x.f2.size:Int) then some (⟨#[]⟩,4) else imgData l (acc ++ x.f2.data.toList)) else none
def image_Of.f (k:Nat) (l0:List S33):Option (ByteArray × Int) :=
 (tree_Check.f k l0).bind fun t=>if t=0 then (code_Num.f k (l0.length:Int)).bind fun s=>if s.1.size≤140737488355328 then (imgHead k l0 s.1.data.toList).bind fun b=>imgData l0 b else none else some (⟨#[]⟩,t)
theorem imgHead_mono:∀ (l:List S33) (acc:List UInt8) (k:Nat),LeO (imgHead k l acc) (imgHead (k + 1) l acc)
 | [],_,_=>LeO.refl _
 | x :: l,acc,k=>by
  unfold imgHead
  exact LeO.bind (code_Num.mono _ _) (fun s1=>LeO.bind (code_Num.mono _ _) (fun s2=>LeO.bind (code_Num.mono _ _) (fun s3=>LeO.ite (imgHead_mono l _ k) (LeO.refl _))))
theorem image_Of.mono:∀ a0 k,LeO (image_Of.f k a0) (image_Of.f (k + 1) a0):=by
 intro a0 k
 unfold image_Of.f
 exact LeO.bind (tree_Check.mono _ _) (fun t=>LeO.ite (LeO.bind (code_Num.mono _ _) (fun s=>LeO.ite (LeO.bind (imgHead_mono _ _ _) (fun _=>LeO.refl _)) (LeO.refl _))) (LeO.refl _))
theorem builder_len (B b:Nat) (acc:List UInt8) (w:World) (h:Lib.IsBuilder 54 5 B b (Lib.byteCells acc) w) :
  Calls Tryd.prog 31 #[.pointer (some ⟨b,0,none⟩)] w fun e w'=>e=.returned (.int .i64 (acc.length:Int))∧w'=w:=by
 refine (Tryd.Builder_Len B b (Lib.byteCells acc) w h).mono ?_
 rintro e w' ⟨rfl,hw⟩
 rw [Lib.byteCells_length]
 exact ⟨rfl,hw⟩
set_option maxHeartbeats 8000000 in
set_option maxRecDepth 100000 in
theorem image_Of.calls (k:Nat) (A0:Option Addr) (c0:Nat) (l0:List S33) (r1:ByteArray) (r2:Int) (w:World) (hr0:Kd.C k33 w A0 l0.length l0) (hc0:l0.length≤c0) (h:image_Of.f k l0=some (r1,r2)) :
  Calls Tryd.prog 12 #[.slice A0 l0.length c0] w fun e w'=>e=.returned (.tuple #[.string r1,.int .i64 r2])∧Below w.heap.size w w':=by
 have HR0:=Aside0.mk hr0;have HC0:=Aside0.mk hc0;clear hr0 hc0;unfold image_Of.f at h;obtain ⟨t,A1,H⟩:=Option.bind_eq_some_iff.mp h;have A1:=Aside0.mk A1;clear h;by_cases c1:t=0
 case neg =>
  rw [if_neg c1] at H;obtain ⟨rfl,rfl⟩:=Prod.mk.inj (Option.some.inj H);have c1b0:(t == 0)=false:=beq_eq_false_iff_ne.mpr c1;have c1b1:(t != 0)=true:=bne_iff_ne.mpr c1;clear H c1;go_enter Tryd.func12,Tryd.ntmps12;go_wp2_with (go_at_call 27;refine (tree_Check.calls k A0 c0 l0 t _ HR0.out HC0.out A1.out).mono ?_;rintro en w1 ⟨rfl,hb1⟩;have HB1:=Aside0.mk hb1;clear hb1);go_ret2;exact ⟨rfl,HB1.out⟩
 rw [if_pos c1] at H;subst c1;obtain ⟨⟨s,e⟩,A2,H⟩:=Option.bind_eq_some_iff.mp H;by_cases c2:s.size≤140737488355328
 case neg=>rw [if_neg c2] at H;cases H
 rw [if_pos c2] at H;obtain ⟨hd,A3,H⟩:=Option.bind_eq_some_iff.mp H;have A2:=Aside0.mk A2;have A3:=Aside0.mk A3;have A4:=Aside0.mk H;have C2:=Aside0.mk c2;clear H c2;go_enter Tryd.func12,Tryd.ntmps12;go_wp2_with (go_at_call 27;refine (tree_Check.calls k A0 c0 l0 0 _ HR0.out HC0.out A1.out).mono ?_;rintro en w1 ⟨rfl,hb1⟩;have HB1:=Aside0.mk hb1;clear hb1);have hsz1:w.heap.size≤w1.heap.size:=HB1.out.size;have hB2:Below w.heap.size w (w1.alloc (.cells #[.pointer none,.slice none 0 0] 54)):=HB1.out.alloc hsz1 _;have hI:Lib.IsBuilder 54 5 w.heap.size w1.heap.size (Lib.byteCells []) (w1.alloc (.cells #[.pointer none,.slice none 0 0] 54)):=.inl ⟨hsz1,.slice none 0 0,heap_alloc_new w1 _,World.ownsRow_nil _ _ _ _,by simp [Value.ownBlock]⟩;refine (image_Of_num.calls k _ s e w.heap.size w1.heap.size [] _ A2.out hI (by rw [List.length_nil,Nat.zero_add];exact C2.out) (by simp;omega)).mono ?_;rintro en w2 ⟨rfl,hI2,hb2,hk2⟩;have HI:=Aside0.mk hI2;have HB:=Aside0.mk (hB2.trans hb2);obtain ⟨g,hg⟩:∃ g,w1.heap.size=g:=⟨_,rfl⟩;rw [hg] at HI;simp only [hg];clear hI2 hb2 hk2 hI hB2 hsz1 HB1 hg;go_wp2;rw [List.nil_append] at HI;go_loopg [23] (l0.length + 1) (fun kq v23 w'=>∃ (i:Nat) (acc:List UInt8),v23=.int .i64 i∧Aside0 (i≤l0.length∧kq=l0.length + 1 - i)∧Aside0 (imgHead k (l0.drop i) acc=some hd)∧Aside0 (Lib.IsBuilder 54 5 w.heap.size g (Lib.byteCells acc) w')∧Aside0 (Below w.heap.size w w'))
 case atStart=>exact ⟨0,s.data.toList,rfl,⟨⟨Nat.zero_le _,rfl⟩⟩,A3,HI,HB⟩
 case round =>
  clear A3 HI HB;obtain ⟨i,acc,rfl,HJ,HA,HI,HB⟩:=hrel;by_cases hi:i < l0.length
  ·have H:=HA.out;rw [List.drop_eq_getElem_cons hi,imgHead] at H;obtain ⟨x,hx⟩:∃ x,l0[i]'hi=x:=⟨_,rfl⟩;rw [hx] at H;obtain ⟨⟨s1,e1⟩,N2,H⟩:=Option.bind_eq_some_iff.mp H;obtain ⟨⟨s2,e2⟩,N3,H⟩:=Option.bind_eq_some_iff.mp H;obtain ⟨⟨s3,e3⟩,N4,H⟩:=Option.bind_eq_some_iff.mp H;simp only at H;by_cases cl:acc.length + s1.size + x.f0.size + s2.size + s3.size≤140737488355328
   case neg=>rw [if_neg cl] at H;cases H
   rw [if_pos cl] at H;have HN:=Aside0.mk H;have CL:=Aside0.mk cl;have N2:=Aside0.mk N2;have N3:=Aside0.mk N3;have N4:=Aside0.mk N4;obtain ⟨ad,ea,hx0,hx1,hx2⟩:=at_T33 HR0.out (i:Int) (by omega) (by omega);cases ea;rw [rdG_nat l0 i hi,hx] at hx0 hx1 hx2;replace hx0:=(HB.out.cell (World.block_lt_of_cell? w _ hx0)).trans hx0;replace hx1:=(HB.out.cell (World.block_lt_of_cell? w _ hx1)).trans hx1;replace hx2:=(HB.out.cell (World.block_lt_of_cell? w _ hx2)).trans hx2;clear H HA hx cl;simp only [Int.toNat_natCast] at hx0 hx1 hx2;have HX:=Aside0.mk (show (wr.alloc (.cells #[.string x.f0,.int .i64 x.f1,.string x.f2] 33)).heap[wr.heap.size]?=some (.cells #[.string x.f0,.int .i64 x.f1,.string x.f2] 33 (0,0)) from heap_alloc_new wr _);have HI3:=Aside0.mk (Go.Proofs.YtmeofdpmddjbgaaDoor.Bld.isB_below HI.out ((Below.refl _ _).alloc (Nat.le_refl _) (.cells #[.string x.f0,.int .i64 x.f1,.string x.f2] 33)));have HB3:=Aside0.mk (HB.out.alloc HB.out.size (.cells #[.string x.f0,.int .i64 x.f1,.string x.f2] 33));have HNE:=Aside0.mk (show wr.heap.size ≠ g from fun e_=>by (have:=Go.Proofs.YtmeofdpmddjbgaaDoor.Bld.isB_lt HI.out);omega);obtain ⟨gx,hgx⟩:∃ gx,wr.heap.size=gx:=⟨_,rfl⟩;rw [hgx] at HX HNE;go_wp2_with (go_at_call 28;refine (image_Of_num.calls k (x.f0.size:Int) s1 e1 w.heap.size g acc _ N2.out HI3.out (by have:=CL.out;omega) HB3.out.size).mono ?_;rintro en w4 ⟨rfl,hI,hb,hk⟩;have HI4:=Aside0.mk hI;have HB4:=Aside0.mk (HB3.out.trans hb);have HXn:=Aside0.mk (Go.Proofs.YtmeofdpmddjbgaaDoor.Bld.keepX hk HX.out HNE.out (by decide));clear hI hb hk hx0 hx1 hx2;(try simp only [hgx]);clear hgx;have hx:w4.cell? ⟨gx,0,none⟩=some (Value.string x.f0):=(blk_cell HXn.out 0).trans rfl);replace HX:=HXn;clear HXn HI3 HB3;go_wp2_with (go_at_call 30;refine (Go.Proofs.YtmeofdpmddjbgaaDoor.Bld.writeString w.heap.size g (Lib.byteCells (acc ++ s1.data.toList)) x.f0 _ HI4.out (by have:=CL.out;rw [Lib.byteCells_length];(try simp only [List.length_append,Go.Proofs.YtmeofdpmddjbgaaDoor.Bld.szl_]);omega) HB4.out.size).mono ?_;rintro en w5 ⟨rfl,hI0,hb,hk⟩;have HI5:=Aside0.mk (Go.Proofs.YtmeofdpmddjbgaaDoor.Bld.isB_wrote hI0);have HBn:=Aside0.mk (HB4.out.trans hb);have HXn:=Aside0.mk (Go.Proofs.YtmeofdpmddjbgaaDoor.Bld.keepX hk HX.out HNE.out (by decide));clear hI0 hx hb hk;have hx:w5.cell? ⟨gx,1,none⟩=some (Value.int .i64 x.f1):=(blk_cell HXn.out 1).trans rfl);have HB5:=HBn;replace HX:=HXn;clear HBn HXn HI4 HB4;(first|(refine (image_Of_num.calls k x.f1 s2 e2 w.heap.size g (acc ++ s1.data.toList ++ (x.f0).data.toList) _ N3.out HI5.out (by have:=CL.out;(try simp only [List.length_append,Go.Proofs.YtmeofdpmddjbgaaDoor.Bld.szl_]);omega) HB5.out.size).mono ?_;rintro en w6 ⟨rfl,hI,hb,hk⟩;have HI6:=Aside0.mk hI;have HBn:=Aside0.mk (HB5.out.trans hb);have HXn:=Aside0.mk (Go.Proofs.YtmeofdpmddjbgaaDoor.Bld.keepX hk HX.out HNE.out (by decide));clear hI hb hk;(try clear hx);have hx:w6.cell? ⟨gx,2,none⟩=some (Value.string x.f2):=(blk_cell HXn.out 2).trans rfl)|go_wp2_with (go_at_call 28;refine (image_Of_num.calls k x.f1 s2 e2 w.heap.size g (acc ++ s1.data.toList ++ (x.f0).data.toList) _ N3.out HI5.out (by have:=CL.out;(try simp only [List.length_append,Go.Proofs.YtmeofdpmddjbgaaDoor.Bld.szl_]);omega) HB5.out.size).mono ?_;rintro en w6 ⟨rfl,hI,hb,hk⟩;have HI6:=Aside0.mk hI;have HBn:=Aside0.mk (HB5.out.trans hb);have HXn:=Aside0.mk (Go.Proofs.YtmeofdpmddjbgaaDoor.Bld.keepX hk HX.out HNE.out (by decide));clear hI hb hk;(try clear hx);have hx:w6.cell? ⟨gx,2,none⟩=some (Value.string x.f2):=(blk_cell HXn.out 2).trans rfl));have HB6:=HBn;replace HX:=HXn;clear HBn HXn HI5 HB5;(first|(refine (image_Of_num.calls k (x.f2.size:Int) s3 e3 w.heap.size g (acc ++ s1.data.toList ++ (x.f0).data.toList ++ s2.data.toList) _ N4.out HI6.out (by have:=CL.out;(try simp only [List.length_append,Go.Proofs.YtmeofdpmddjbgaaDoor.Bld.szl_]);omega) HB6.out.size).mono ?_;rintro en w7 ⟨rfl,hI,hb,hk⟩;have HI7:=Aside0.mk hI;have HBn:=Aside0.mk (HB6.out.trans hb);have HXn:=Aside0.mk (Go.Proofs.YtmeofdpmddjbgaaDoor.Bld.keepX hk HX.out HNE.out (by decide));clear hI hb hk;(try clear hx);have hx:w7.cell? ⟨gx,0,none⟩=some (Value.string x.f0):=(blk_cell HXn.out 0).trans rfl)|go_wp2_with (go_at_call 28;refine (image_Of_num.calls k (x.f2.size:Int) s3 e3 w.heap.size g (acc ++ s1.data.toList ++ (x.f0).data.toList ++ s2.data.toList) _ N4.out HI6.out (by have:=CL.out;(try simp only [List.length_append,Go.Proofs.YtmeofdpmddjbgaaDoor.Bld.szl_]);omega) HB6.out.size).mono ?_;rintro en w7 ⟨rfl,hI,hb,hk⟩;have HI7:=Aside0.mk hI;have HBn:=Aside0.mk (HB6.out.trans hb);have HXn:=Aside0.mk (Go.Proofs.YtmeofdpmddjbgaaDoor.Bld.keepX hk HX.out HNE.out (by decide));clear hI hb hk;(try clear hx);have hx:w7.cell? ⟨gx,0,none⟩=some (Value.string x.f0):=(blk_cell HXn.out 0).trans rfl));have HB7:=HBn;replace HX:=HXn;clear HBn HXn HI6 HB6;go_roundg (l0.length + 1 - (i + 1))
   case measure=>have:=HJ.out.2;omega
   case rel=>exact ⟨i + 1,_,by first|rfl|go_num|(rw [wrap_succ_ i l0.length hi (Kd.C_len_ HR0.out)]),⟨⟨hi,rfl⟩⟩,HN,HI7,HB7⟩
  ·have H:=HA.out;rw [List.drop_eq_nil_of_le (by omega),imgHead] at H;obtain rfl:=Option.some.inj H;go_wp2;clear HA HJ hi;obtain ⟨wo,hwo⟩:∃ wo:World,wo=wr:=⟨_,rfl⟩;go_loopg [47] (l0.length + 1) (fun kq v47 w'=>∃ (j:Nat) (ac:List UInt8),v47=.int .i64 j∧Aside0 (j≤l0.length∧kq=l0.length + 1 - j)∧Aside0 (imgData (l0.drop j) ac=some (r1,r2))∧Aside0 (Lib.IsBuilder 54 5 w.heap.size g (Lib.byteCells ac) w')∧Aside0 (Below w.heap.size w w'))
   case atStart=>exact ⟨0,_,rfl,⟨⟨Nat.zero_le _,rfl⟩⟩,A4,HI,HB⟩
   case round =>
    clear A4 HI HB;obtain ⟨j,ac,rfl,HJ,HA,HI,HB⟩:=hrel;by_cases hj:j < l0.length
    ·have H:=HA.out;rw [List.drop_eq_getElem_cons hj,imgData] at H;obtain ⟨x,hx⟩:∃ x,l0[j]'hj=x:=⟨_,rfl⟩;rw [hx] at H;by_cases cl:ac.length≤524288
     case neg=>rw [if_neg cl] at H;cases H
     rw [if_pos cl] at H;obtain ⟨ad,ea,hx0,hx1,hx2⟩:=at_T33 HR0.out (j:Int) (by omega) (by omega);cases ea;rw [rdG_nat l0 j hj,hx] at hx0 hx1 hx2;replace hx0:=(HB.out.cell (World.block_lt_of_cell? w _ hx0)).trans hx0;replace hx1:=(HB.out.cell (World.block_lt_of_cell? w _ hx1)).trans hx1;replace hx2:=(HB.out.cell (World.block_lt_of_cell? w _ hx2)).trans hx2;clear HA hx;simp only [Int.toNat_natCast] at hx0 hx1 hx2;have HX:=Aside0.mk (show (wr.alloc (.cells #[.string x.f0,.int .i64 x.f1,.string x.f2] 33)).heap[wr.heap.size]?=some (.cells #[.string x.f0,.int .i64 x.f1,.string x.f2] 33 (0,0)) from heap_alloc_new wr _);have HI3:=Aside0.mk (Go.Proofs.YtmeofdpmddjbgaaDoor.Bld.isB_below HI.out ((Below.refl _ _).alloc (Nat.le_refl _) (.cells #[.string x.f0,.int .i64 x.f1,.string x.f2] 33)));have HB3:=Aside0.mk (HB.out.alloc HB.out.size (.cells #[.string x.f0,.int .i64 x.f1,.string x.f2] 33));have HI4:=Aside0.mk (show ∀ n,Lib.IsBuilder 54 5 w.heap.size g (Lib.byteCells ac) ((wr.alloc (.cells #[.string x.f0,.int .i64 x.f1,.string x.f2] 33)).drewN n) from fun n=>HI3.out);(have hw_:IntKind.i64.wrap (524288 - (ac.length:Int))=524288 - (ac.length:Int):=by rw [IntKind.wrap_i64];omega);by_cases ct:524288 - (ac.length:Int) < (x.f2.size:Int)
     ·rw [if_pos ct] at H;obtain ⟨rfl,rfl⟩:=Prod.mk.inj (Option.some.inj H);have ctb:decide (524288 - (ac.length:Int) < (x.f2.size:Int))=true:=decide_eq_true ct;clear H ct;go_wp2;go_quiet ((go_at_call 31;exact Calls.quiet_of_same (builder_len w.heap.size g ac _ HI3.out)));go_wp2;go_ret2;exact ⟨rfl,bdN HB3.out _⟩
     ·rw [if_neg ct] at H;have HN:=Aside0.mk H;have CL:=Aside0.mk (show ac.length + x.f2.size≤140737488355328 by omega);have ctb:decide (524288 - (ac.length:Int) < (x.f2.size:Int))=false:=decide_eq_false ct;clear H ct;go_wp2;go_quiet ((go_at_call 31;exact Calls.quiet_of_same (builder_len w.heap.size g ac _ HI3.out)));go_wp2_with (go_at_call 30;refine (Go.Proofs.YtmeofdpmddjbgaaDoor.Bld.writeString w.heap.size g (Lib.byteCells ac) x.f2 _ (HI4.out _) (by have:=CL.out;rw [Lib.byteCells_length];omega) (bdN HB3.out _).size).mono ?_;rintro en w5 ⟨rfl,hI0,hb,hk⟩;have HI5:=Aside0.mk (Go.Proofs.YtmeofdpmddjbgaaDoor.Bld.isB_wrote hI0);have HB5:=Aside0.mk ((bdN HB3.out _).trans hb);clear hI0 hb hk);go_roundg (l0.length + 1 - (j + 1))
      case measure=>have:=HJ.out.2;omega
      case rel=>exact ⟨j + 1,_,by first|rfl|go_num|(rw [wrap_succ_ j l0.length hj (Kd.C_len_ HR0.out)]),⟨⟨hj,rfl⟩⟩,HN,HI5,HB5⟩
    ·have H:=HA.out;rw [List.drop_eq_nil_of_le (by omega),imgData] at H;obtain ⟨rfl,rfl⟩:=Prod.mk.inj (Option.some.inj H);go_wp2_with (go_at_call 32;refine (Tryd.Builder_String_any w.heap.size g ac _ HI.out HB.out.size).mono ?_;rintro en w5 ⟨rfl,hb⟩;have HD:=Aside0.mk (HB.out.trans hb);clear hb);go_ret2;exact ⟨rfl,HD.out⟩
end Go.Proofs.YtmeofdpmddjbgaaDoor.G
end
