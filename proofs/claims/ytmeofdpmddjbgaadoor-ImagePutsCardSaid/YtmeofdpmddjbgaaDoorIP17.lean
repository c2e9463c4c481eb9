/- Texts of this session's claim of ImagePuts, less what its theorem does not reach. No condition. -/
import Derived.Test.YtmeofdpmddjbgaaDoorIP11
import Derived.Test.YtmeofdpmddjbgaaDoorIP12
import Derived.Test.YtmeofdpmddjbgaaDoorIP13
import Derived.Test.YtmeofdpmddjbgaaDoorIP16
section
namespace Go.Proofs.YtmeofdpmddjbgaaDoor.G
open Go.RowKit Go.Proofs.YtmeofdpmddjbgaaDoorW.PrintWords Go.Proofs.YtmeofdpmddjbgaaDoorW.PrintLast Go.Proofs.YtmeofdpmddjbgaaDoorW.PrintMore
attribute [local go_sem] max2_int min2_int max_two min_two max_three min_three max_four min_four   
set_option linter.unusedVariables false
set_option linter.unusedSimpArgs false
mutual
def api_File_85.l0:Nat→List (S33)→Int→Int→Int→Option ((List (S33)))
 | 0,_,_,_,_=>none
 | k + 1,x0,x1,x2,x8=>if x8 < x2 then (api_File_85.l1 k x0 x1 x2 x8 x8) else (some x0)
def api_File_85.l1:Nat→List (S33)→Int→Int→Int→Int→Option ((List (S33)))
 | 0,_,_,_,_,_=>none
 | k + 1,x0,x1,x2,x8,x9=>if x9 > x1 then (if 0≤x9 then (if x9 < (x0.length:Int) then (if 0≤(wrap64 (x9 - 1)) then (if (wrap64 (x9 - 1)) < (x0.length:Int) then ((tree_Sort_1.f k ((rd_T33 x0 x9).f0) ((rd_T33 x0 x9).f1) ((rd_T33 x0 x9).f2) ((rd_T33 x0 (wrap64 (x9 - 1))).f0) ((rd_T33 x0 (wrap64 (x9 - 1))).f1) ((rd_T33 x0 (wrap64 (x9 - 1))).f2)).bind fun t582=>(if t582 < 0 then (api_File_85.l1 k ((x0.set (x9:Int).toNat (⟨(rd_T33 x0 (wrap64 (x9 - 1))).f0,(rd_T33 x0 (wrap64 (x9 - 1))).f1,(rd_T33 x0 (wrap64 (x9 - 1))).f2⟩:S33)).set ((wrap64 (x9 - 1)):Int).toNat (⟨(rd_T33 x0 x9).f0,(rd_T33 x0 x9).f1,(rd_T33 x0 x9).f2⟩:S33)) x1 x2 x8 (wrap64 (x9 - 1))) else (api_File_85.l0 k x0 x1 x2 (wrap64 (x8 + 1))))) else (none)) else (none)) else (none)) else (none)) else (api_File_85.l0 k x0 x1 x2 (wrap64 (x8 + 1)))
end
def api_File_85.f (k:Nat) (l0:List (S33)) (a1:Int) (a2:Int)  : Option ((List (S33))):=api_File_85.l0 k l0 a1 a2 (wrap64 (a1 + 1))
def api_File_85.T4:Bool × List (List Nat × List Nat):=(true,[([],[]),([],[]),([0,1],[0,1]),([2],[2]),([3],[3]),([3],[3]),([3],[3]),([5,6,3],[3,5,6]),([7,3],[3,7]),([3],[3]),([3],[3]),([10,3],[3,10]),([9,11,3],[3,9,11]),([12,3],[3,12]),([4,8,13,3,3],[3,4,8,13]),([14,3],[3,14]),([3,15],[3,15])])
def api_File_85.B4:List Nat:=[0,0,3,7,15,15,15,111,239,15,15,1039,3599,7695,16383,32767,65535]
theorem api_File_85.tab4:rtab .any (opsOf Tryd.f85 4)=api_File_85.T4:=by kernel_rfl
theorem api_File_85.bits4:waitsOk api_File_85.T4.2 api_File_85.B4=true:=by kernel_rfl
def api_File_85.T6:Bool × List (List Nat × List Nat):=(true,[([],[]),([],[]),([],[]),([],[]),([3],[3]),([],[]),([],[]),([6],[6]),([5,7],[5,7]),([8],[8]),([],[]),([],[]),([10,11],[10,11]),([12],[12]),([0,1,0,1,5,6,7,8,9,13],[0,1]),([14,9,0,1,5,6,7,8,9,13],[9,14]),([2,4,0,1,2,3,4,5,6,7,8,9,10,11,12,13,14,15],[2,4]),([16,13,15,0,1,2,3,4,5,6,7,8,9,10,11,12,13,14,15],[13,16])])
def api_File_85.B6:List Nat:=[0,0,0,0,8,0,0,64,224,480,0,0,3072,7168,16355,32739,65535,131071]
theorem api_File_85.tab6:rtab .any (opsOf Tryd.f85 6)=api_File_85.T6:=by kernel_rfl
theorem api_File_85.bits6:waitsOk api_File_85.T6.2 api_File_85.B6=true:=by kernel_rfl
set_option maxHeartbeats 8000000 in
set_option maxRecDepth 100000 in
theorem api_File_85.calls (k:Nat) (P0_:Nat→Prop) (u9000_:Value) (l0:List (S33)) (a1:Int) (a2:Int)  (r:List (S33)) (w0 w:World) (hB:Below w0.heap.size w0 w) (ho0:Kd.R k33 33 w w0.heap.size P0_ u9000_ l0) (h:api_File_85.f k l0 a1 a2=some r) :
  Calls Tryd.prog 85 #[u9000_,.int .i64 a1,.int .i64 a2,.func (.func 70) #[] #[]] w fun e w'=>e=.returned (.tuple #[])∧Kd.R k33 33 w' w0.heap.size (fun k_=>(P0_ k_∨w.heap.size≤k_)) u9000_ r∧Below w0.heap.size w0 w'∧Kept w w' (fun k_=>P0_ k_):=by
 have hu33:=Tryd.underlying33;have HO0:=Aside0.mk (show Kd.R k33 33 w w0.heap.size (fun k_=>(P0_ k_∨w.heap.size≤k_)) u9000_ l0 from Kd.R_mono ho0 (fun k_ hk=>(.inl hk)));have HK:=Aside0.mk (Kept.refl w (fun k_=>P0_ k_));have HW0:=Aside0.mk hB.size;have HB:=Aside0.mk hB;clear hB;have H:(api_File_85.l0 k l0 a1 a2 (wrap64 (a1 + 1)))=some r:=h;clear h;have H':=Aside0.mk H;clear H;go_enter Tryd.func85,Tryd.ntmps85;go_wp2;go_loopg [8] k (fun kq v8 w'=>∃ (x0_1:List (S33)) (x8_1:Int),v8=.int .i64 x8_1∧Aside0 (api_File_85.l0 kq x0_1 a1 a2 x8_1=some r)∧Aside0 (kq≤k)∧Aside0 (Kd.R k33 33 w' w0.heap.size (fun k_=>(P0_ k_∨w.heap.size≤k_)) u9000_ x0_1)∧Aside0 (Kept w w' (fun k_=>P0_ k_))∧Aside0 (Below w0.heap.size w0 w'))
 case atStart=>exact ⟨(l0),(wrap64 (a1 + 1)),(by first|rfl|(simp;done)|(simp [*];done)),H',⟨Nat.le_refl _⟩,⟨by (with_reducible repeat (first|apply Kd.R_alloc|apply Kd.R_drewN|apply Kd.R_drew));exact HO0.out⟩,⟨by repeat (first|(with_reducible first|exact HK.out|apply Kept.alloc|apply Kept.drewN|apply Kept.drew)|exact HK.out)⟩,⟨by repeat (first|(with_reducible first|exact HB.out|apply bal|apply bdN|apply bd1)|exact HB.out)⟩⟩
 case round =>
  clear H';(try clear p2);obtain ⟨x0_1,x8_1,rfl,HA,HK1,HO_0,HK,HB⟩:=hrel
  cases gk with
  | zero=>exact absurd HA.out (by simp [api_File_85.l0])
  | succ k1 =>
   have H:=HA.out;clear HA;simp only [api_File_85.l0] at H;by_cases c5:x8_1 < a2
   ·rw [if_pos c5] at H;have c5b0:decide (x8_1 < a2)=true:=decide_eq_true c5;clear c5;have H':=Aside0.mk H;clear H;go_wp2;go_loopg [9] k1 (fun kq v9 w'=>∃ (x0_2:List (S33)) (x9_2:Int),v9=.int .i64 x9_2∧Aside0 (api_File_85.l1 kq x0_2 a1 a2 x8_1 x9_2=some r)∧Aside0 (kq≤k1)∧Aside0 (Kd.R k33 33 w' w0.heap.size (fun k_=>(P0_ k_∨w.heap.size≤k_)) u9000_ x0_2)∧Aside0 (Kept w w' (fun k_=>P0_ k_))∧Aside0 (Below w0.heap.size w0 w'))
    case atStart=>exact ⟨(x0_1),(x8_1),(by first|rfl|(simp;done)|(simp [*];done)),H',⟨Nat.le_refl _⟩,⟨by (with_reducible repeat (first|apply Kd.R_alloc|apply Kd.R_drewN|apply Kd.R_drew));exact HO_0.out⟩,⟨by repeat (first|(with_reducible first|exact HK.out|apply Kept.alloc|apply Kept.drewN|apply Kept.drew)|exact HK.out)⟩,⟨by repeat (first|(with_reducible first|exact HB.out|apply bal|apply bdN|apply bd1)|exact HB.out)⟩⟩
    case round =>
     clear H';(try clear p2);(try clear c5);(try clear c5b0);(try clear p2);obtain ⟨x0_2,x9_2,rfl,HA,HK2,HO_0,HK,HB⟩:=hrel
     cases gk with
     | zero=>exact absurd HA.out (by simp [api_File_85.l1])
     | succ k2 =>
      have H:=HA.out;clear HA;simp only [api_File_85.l1] at H;by_cases c6:x9_2 > a1
      ·rw [if_pos c6] at H;have c6b0:decide (a1 < x9_2)=true:=decide_eq_true c6;clear c6;by_cases c7:0≤x9_2
       ·rw [if_pos c7] at H;have c7b0:decide (0≤x9_2)=true:=decide_eq_true c7;clear c7;by_cases c8:x9_2 < (x0_2.length:Int)
        ·rw [if_pos c8] at H;have c8b0:decide (x9_2 < (x0_2.length:Int))=true:=decide_eq_true c8;clear c8;obtain ⟨ji9,hji9⟩:∃ j_:Int,(wrap64 (x9_2 - 1))=j_:=⟨_,rfl⟩;(replace H:(if 0≤(ji9) then (if (ji9) < (x0_2.length:Int) then ((tree_Sort_1.f k2 ((rd_T33 x0_2 x9_2).f0) ((rd_T33 x0_2 x9_2).f1) ((rd_T33 x0_2 x9_2).f2) ((rd_T33 x0_2 (ji9)).f0) ((rd_T33 x0_2 (ji9)).f1) ((rd_T33 x0_2 (ji9)).f2)).bind fun t582=>(if t582 < 0 then (api_File_85.l1 k2 ((x0_2.set (x9_2:Int).toNat (⟨(rd_T33 x0_2 (ji9)).f0,(rd_T33 x0_2 (ji9)).f1,(rd_T33 x0_2 (ji9)).f2⟩:S33)).set ((ji9):Int).toNat (⟨(rd_T33 x0_2 x9_2).f0,(rd_T33 x0_2 x9_2).f1,(rd_T33 x0_2 x9_2).f2⟩:S33)) a1 a2 x8_1 ji9) else (api_File_85.l0 k2 x0_2 a1 a2 (wrap64 (x8_1 + 1))))) else (none)) else (none))=some r:=by first|(rw [hji9] at H;exact H)|(simp only [hji9] at H ⊢;exact H));have hji9w:(IntKind.i64.wrap (x9_2 - 1))=ji9:=(i64_w _).trans hji9;by_cases c10:0≤(ji9)
         ·rw [if_pos c10] at H;have c10b0:decide (0≤(ji9))=true:=decide_eq_true c10;clear c10;by_cases c11:(ji9) < (x0_2.length:Int)
          ·rw [if_pos c11] at H;have c11b0:decide ((ji9) < (x0_2.length:Int))=true:=decide_eq_true c11;clear c11;replace H:=Option.bind_eq_some_iff.mp H;obtain ⟨t582,A120,H⟩:=H;replace H:(if t582 < 0 then (api_File_85.l1 k2 ((x0_2.set (x9_2:Int).toNat (⟨(rd_T33 x0_2 (ji9)).f0,(rd_T33 x0_2 (ji9)).f1,(rd_T33 x0_2 (ji9)).f2⟩:S33)).set ((ji9):Int).toNat (⟨(rd_T33 x0_2 x9_2).f0,(rd_T33 x0_2 x9_2).f1,(rd_T33 x0_2 x9_2).f2⟩:S33)) a1 a2 x8_1 ji9) else (api_File_85.l0 k2 x0_2 a1 a2 (wrap64 (x8_1 + 1))))=some r:=H;have A12:=Aside0.mk A120;clear A120;by_cases c13:t582 < 0
           ·rw [if_pos c13] at H;have c13b0:decide (t582 < 0)=true:=decide_eq_true c13;clear c13;obtain ⟨y585,hy585⟩:∃ y_:List (S33),y_=(x0_2.set (x9_2:Int).toNat (⟨(rd_T33 x0_2 (ji9)).f0,(rd_T33 x0_2 (ji9)).f1,(rd_T33 x0_2 (ji9)).f2⟩:S33)):=⟨_,rfl⟩;(replace H:(api_File_85.l1 k2 (y585.set ((ji9):Int).toNat (⟨(rd_T33 x0_2 x9_2).f0,(rd_T33 x0_2 x9_2).f1,(rd_T33 x0_2 x9_2).f2⟩:S33)) a1 a2 x8_1 ji9)=some r:=by first|(rw [hy585];with_reducible exact H)|(have H2_:=(Option.bind_some _ _).symm.trans H;rw [hy585];with_reducible exact H2_)|(have H2_:=(Option.bind_some _ _).symm.trans H;with_reducible exact H2_)|with_reducible exact H|(rw [hy585];exact H)|exact H);have Ny585:=Aside0.mk hy585;clear hy585;obtain ⟨y586,hy586⟩:∃ y_:List (S33),y_=(y585.set ((ji9):Int).toNat (⟨(rd_T33 x0_2 x9_2).f0,(rd_T33 x0_2 x9_2).f1,(rd_T33 x0_2 x9_2).f2⟩:S33)):=⟨_,rfl⟩;(replace H:(api_File_85.l1 k2 y586 a1 a2 x8_1 ji9)=some r:=by first|(rw [hy586];with_reducible exact H)|(have H2_:=(Option.bind_some _ _).symm.trans H;rw [hy586];with_reducible exact H2_)|(have H2_:=(Option.bind_some _ _).symm.trans H;with_reducible exact H2_)|with_reducible exact H|(rw [hy586];exact H)|exact H);have Ny586:=Aside0.mk hy586;clear hy586;have H':=Aside0.mk H;clear H;(try go_wp2);have n0_:=Aside0.mk (Kd.R_drew HO_0.out);have n1_:=Aside0.mk (Kept.drew HK.out);have n2_:=Aside0.mk (bd1 HB.out);clear HO_0;clear HK;clear HB;have HO_0:=n0_;have HK:=n1_;have HB:=n2_;clear n0_ n1_ n2_;obtain ⟨Ao17,co17,eo17⟩:=Kd.R_slice HO_0.out;(first|subst eo17|(injection eo17 with f1_ f2_ f3_;have f4_:=f1_.symm;have f5_:=f3_.symm;clear f1_ f2_ f3_;subst f4_;subst f5_));have p580:0≤(x9_2:Int):=of_decide_eq_true (by first|(with_reducible assumption)|assumption);have q580:x9_2 < (x0_2.length:Int):=of_decide_eq_true (by first|(with_reducible assumption)|assumption);obtain ⟨ad580,e580,hx580_0,hx580_1,hx580_2⟩:=at_T33 (Kd.R_reads' HO_0.out).2.2 x9_2 p580 q580;cases e580;replace p580:=eq_true p580;replace q580:=eq_true q580;have p581:0≤((ji9):Int):=of_decide_eq_true (by first|(with_reducible assumption)|assumption);have q581:(ji9) < (x0_2.length:Int):=of_decide_eq_true (by first|(with_reducible assumption)|assumption);obtain ⟨ad581,e581,hx581_0,hx581_1,hx581_2⟩:=at_T33 (Kd.R_reads' HO_0.out).2.2 (ji9) p581 q581;obtain rfl:ad580=ad581:=(by injection e581);replace p581:=eq_true p581;replace q581:=eq_true q581;refine start_ (n:=17) (S:=fun w'=>w'.cell? (ad580.add ((x9_2).toNat * 3))=some (.string ((rd_T33 x0_2 x9_2).f0))∧w'.cell? ⟨(ad580.add ((x9_2).toNat * 3)).block,(ad580.add ((x9_2).toNat * 3)).off + 1,none⟩=some (.int .i64 ((rd_T33 x0_2 x9_2).f1))∧w'.cell? ⟨(ad580.add ((x9_2).toNat * 3)).block,(ad580.add ((x9_2).toNat * 3)).off + 2,none⟩=some (.string ((rd_T33 x0_2 x9_2).f2))∧w'.cell? (ad580.add (((ji9)).toNat * 3))=some (.string ((rd_T33 x0_2 (ji9)).f0))∧w'.cell? ⟨(ad580.add (((ji9)).toNat * 3)).block,(ad580.add (((ji9)).toNat * 3)).off + 1,none⟩=some (.int .i64 ((rd_T33 x0_2 (ji9)).f1))∧w'.cell? ⟨(ad580.add (((ji9)).toNat * 3)).block,(ad580.add (((ji9)).toNat * 3)).off + 2,none⟩=some (.string ((rd_T33 x0_2 (ji9)).f2))) (ds:=[]) #[false,false,false,false,false,false,false,false,false,false,false,false,false,false,false,false,false] (by kernel_rfl) rfl rfl ⟨hx580_0,hx580_1,hx580_2,hx581_0,hx581_1,hx581_2⟩ (fun hHeld=>?_);refine with_tabW api_File_85.tab4 api_File_85.bits4 (fun HT_ HW_=>?_);generalize wr.drew=w16 at HO_0 HK HB hx580_0 hx580_1 hx580_2 hx581_0 hx581_1 hx581_2 hHeld ⊢;refine pure_ (i:=0) (N:=some 18) (v:=?_) (a':=?_) #[true,false,false,false,false,false,false,false,false,false,false,false,false,false,false,false,false] rfl rfl (any_of HT_.out (by kernel_rfl)) (fun _ _ _ h=>h) (Or.inl ⟨by rfl,?_⟩) ?_ ?_;rotate_left
            ·intro w';go_simp;with_reducible rfl
            rotate_left
            ·simp only [Act.put,List.setIfInBounds_toArray,List.set_cons_zero,List.set_cons_succ,i64_w,i32_w];rfl
            refine pure_ (i:=1) (N:=some 19) (v:=?_) (a':=?_) #[true,true,false,false,false,false,false,false,false,false,false,false,false,false,false,false,false] rfl rfl (any_of HT_.out (by kernel_rfl)) (fun _ _ _ h=>h) (Or.inl ⟨by rfl,?_⟩) ?_ ?_;rotate_left
            ·intro w';go_simp;with_reducible rfl
            rotate_left
            ·simp only [Act.put,List.setIfInBounds_toArray,List.set_cons_zero,List.set_cons_succ,i64_w,i32_w];rfl
            refine pure_ (i:=2) (N:=some 20) (v:=?_) (a':=?_) #[true,true,true,false,false,false,false,false,false,false,false,false,false,false,false,false,false] rfl rfl (any_of HT_.out (by kernel_rfl)) (fun _ _ _ h=>h) (Or.inl ⟨by rfl,?_⟩) ?_ ?_;rotate_left
            ·intro w';go_simp;with_reducible rfl
            rotate_left
            ·simp only [Act.put,List.setIfInBounds_toArray,List.set_cons_zero,List.set_cons_succ,i64_w,i32_w];rfl
            refine pure_ (i:=3) (N:=some 21) (v:=?_) (a':=?_) #[true,true,true,true,false,false,false,false,false,false,false,false,false,false,false,false,false] rfl rfl (any_of HT_.out (by kernel_rfl)) (fun _ _ _ h=>h) (Or.inl ⟨by rfl,?_⟩) ?_ ?_;rotate_left
            ·intro w';go_simp;with_reducible rfl
            rotate_left
            ·simp only [Act.put,List.setIfInBounds_toArray,List.set_cons_zero,List.set_cons_succ,i64_w,i32_w];rfl
            refine pure_ (i:=4) (N:=some 22) (v:=?_) (a':=?_) #[true,true,true,true,true,false,false,false,false,false,false,false,false,false,false,false,false] rfl rfl (any_of HT_.out (by kernel_rfl)) (fun _ _ _ h=>h) (Or.inl ⟨by rfl,?_⟩) ?_ ?_;rotate_left
            ·intro w';go_simp;with_reducible rfl
            rotate_left
            ·simp only [Act.put,List.setIfInBounds_toArray,List.set_cons_zero,List.set_cons_succ,i64_w,i32_w];rfl
            refine pure_ (i:=5) (N:=some 23) (v:=?_) (a':=?_) #[true,true,true,true,true,true,false,false,false,false,false,false,false,false,false,false,false] rfl rfl (any_of HT_.out (by kernel_rfl)) (fun _ _ _ h=>h) (Or.inl ⟨by rfl,?_⟩) ?_ ?_;rotate_left
            ·intro w';go_simp;with_reducible rfl
            rotate_left
            ·simp only [Act.put,List.setIfInBounds_toArray,List.set_cons_zero,List.set_cons_succ,i64_w,i32_w];rfl
            refine pure_ (i:=6) (N:=some 24) (v:=?_) (a':=?_) #[true,true,true,true,true,true,true,false,false,false,false,false,false,false,false,false,false] rfl rfl (any_of HT_.out (by kernel_rfl)) (fun _ _ _ h=>h) (Or.inl ⟨by rfl,?_⟩) ?_ ?_;rotate_left
            ·intro w';go_simp;with_reducible rfl
            rotate_left
            ·simp only [Act.put,List.setIfInBounds_toArray,List.set_cons_zero,List.set_cons_succ,i64_w,i32_w];rfl
            refine pure_ (i:=7) (N:=some 25) (v:=?_) (a':=?_) #[true,true,true,true,true,true,true,true,false,false,false,false,false,false,false,false,false] rfl rfl (any_of HT_.out (by kernel_rfl)) (fun _ _ _ h=>h) (Or.inl ⟨by rfl,?_⟩) ?_ ?_;rotate_left
            ·intro w';go_simp;with_reducible rfl
            rotate_left
            ·simp only [Act.put,List.setIfInBounds_toArray,List.set_cons_zero,List.set_cons_succ,i64_w,i32_w];rfl
            refine pure_ (i:=9) (N:=some 27) (v:=?_) (a':=?_) #[true,true,true,true,true,true,true,true,false,true,false,false,false,false,false,false,false] rfl rfl (any_of HT_.out (by kernel_rfl)) (fun _ _ _ h=>h) (Or.inl ⟨by rfl,?_⟩) ?_ ?_;rotate_left
            ·intro w';go_simp;with_reducible rfl
            rotate_left
            ·simp only [Act.put,List.setIfInBounds_toArray,List.set_cons_zero,List.set_cons_succ,i64_w,i32_w];rfl
            refine pure_ (i:=10) (N:=some 28) (v:=?_) (a':=?_) #[true,true,true,true,true,true,true,true,false,true,true,false,false,false,false,false,false] rfl rfl (any_of HT_.out (by kernel_rfl)) (fun _ _ _ h=>h) (Or.inl ⟨by rfl,?_⟩) ?_ ?_;rotate_left
            ·intro w';go_simp;with_reducible rfl
            rotate_left
            ·simp only [Act.put,List.setIfInBounds_toArray,List.set_cons_zero,List.set_cons_succ,i64_w,i32_w];rfl
            refine pure_ (i:=11) (N:=some 29) (v:=?_) (a':=?_) #[true,true,true,true,true,true,true,true,false,true,true,true,false,false,false,false,false] rfl rfl (any_of HT_.out (by kernel_rfl)) (fun _ _ _ h=>h) (Or.inl ⟨by rfl,?_⟩) ?_ ?_;rotate_left
            ·intro w';go_simp;with_reducible rfl
            rotate_left
            ·simp only [Act.put,List.setIfInBounds_toArray,List.set_cons_zero,List.set_cons_succ,i64_w,i32_w];rfl
            refine pure_ (i:=12) (N:=some 30) (v:=?_) (a':=?_) #[true,true,true,true,true,true,true,true,false,true,true,true,true,false,false,false,false] rfl rfl (any_of HT_.out (by kernel_rfl)) (fun _ _ _ h=>h) (Or.inl ⟨by rfl,?_⟩) ?_ ?_;rotate_left
            ·intro w';go_simp;with_reducible rfl
            rotate_left
            ·simp only [Act.put,List.setIfInBounds_toArray,List.set_cons_zero,List.set_cons_succ,i64_w,i32_w];rfl
            refine take_ (i:=8) (N:=some 26) (v:=?_) (a':=?_) #[true,true,true,true,true,true,true,true,true,true,true,true,true,false,false,false,false] rfl rfl (take_ofW HT_.out HW_.out (by kernel_rfl)) (fun _ _ _ h=>h) (Or.inl ⟨by rfl,?_⟩) hHeld ?_ ?_;rotate_left
            ·rintro w' ⟨s0,s1,s2,s3,s4,s5⟩;go_simp;with_reducible rfl
            rotate_left
            ·simp only [Act.put,List.setIfInBounds_toArray,List.set_cons_zero,List.set_cons_succ,i64_w,i32_w];rfl
            refine take_ (i:=13) (N:=some 31) (v:=?_) (a':=?_) #[true,true,true,true,true,true,true,true,true,true,true,true,true,true,false,false,false] rfl rfl (take_ofW HT_.out HW_.out (by kernel_rfl)) (fun _ _ _ h=>h) (Or.inl ⟨by rfl,?_⟩) hHeld ?_ ?_;rotate_left
            ·rintro w' ⟨s0,s1,s2,s3,s4,s5⟩;go_simp;with_reducible rfl
            rotate_left
            ·simp only [Act.put,List.setIfInBounds_toArray,List.set_cons_zero,List.set_cons_succ,i64_w,i32_w];rfl
            refine one_ (i:=14) (N:=some 32) #[true,true,true,true,true,true,true,true,true,true,true,true,true,true,true,false,false] rfl rfl (one_of HT_.out (by kernel_rfl)) (by decide) (fun K hK=>?_);refine Go.Proofs.YtmeofdpmddjbgaaDoor.Fnv.goes_ _ Tryd.func70 (by kernel_rfl) rfl #[.agg #[.string ((rd_T33 x0_2 x9_2).f0),.int .i64 ((rd_T33 x0_2 x9_2).f1),.string ((rd_T33 x0_2 x9_2).f2)],.agg #[.string ((rd_T33 x0_2 (ji9)).f0),.int .i64 ((rd_T33 x0_2 (ji9)).f1),.string ((rd_T33 x0_2 (ji9)).f2)]] (by rfl) rfl rfl (by (try simp only [List.map_toArray,List.map_cons,List.map_nil]);first|done|(simp only [hji9];rfl)|rfl|(simp only [List.length_drop,List.length_take];rfl)) (by rfl) ?_;with_reducible refine (tree_Sort_1.calls k2 ((rd_T33 x0_2 x9_2).f0) ((rd_T33 x0_2 x9_2).f1) ((rd_T33 x0_2 x9_2).f2) ((rd_T33 x0_2 (ji9)).f0) ((rd_T33 x0_2 (ji9)).f1) ((rd_T33 x0_2 (ji9)).f2) t582 _ A12.out).mono ?_;rintro e w18 ⟨rfl,hb⟩;have HS0_:=(hb.cell (World.block_lt_of_cell? _ _ (hHeld.1))).trans (hHeld.1);have HS1_:=(hb.cell (World.block_lt_of_cell? _ _ (hHeld.2.1))).trans (hHeld.2.1);have HS2_:=(hb.cell (World.block_lt_of_cell? _ _ (hHeld.2.2.1))).trans (hHeld.2.2.1);have HS3_:=(hb.cell (World.block_lt_of_cell? _ _ (hHeld.2.2.2.1))).trans (hHeld.2.2.2.1);have HS4_:=(hb.cell (World.block_lt_of_cell? _ _ (hHeld.2.2.2.2.1))).trans (hHeld.2.2.2.2.1);have HS5_:=(hb.cell (World.block_lt_of_cell? _ _ (hHeld.2.2.2.2.2))).trans (hHeld.2.2.2.2.2);refine ⟨_,rfl,?_⟩;have n0_:=Aside0.mk (Kd.R_below (by (with_reducible repeat (first|apply Kd.R_alloc|apply Kd.R_drewN|apply Kd.R_drew));exact HO_0.out) hb);have n1_:=Aside0.mk (Kept.below (S:=(fun k_=>P0_ k_)) (by repeat (first|(with_reducible first|exact HK.out|apply Kept.alloc|apply Kept.drewN|apply Kept.drew)|exact HK.out)) hb);have n2_:=Aside0.mk (below_step (by repeat (first|(with_reducible first|exact HB.out|apply bal|apply bdN|apply bd1)|exact HB.out)) hb);clear HO_0;clear HK;clear HB;have HO_0:=n0_;have HK:=n1_;have HB:=n2_;clear n0_ n1_ n2_;(try clear hb);(try clear hb2);(try clear hk);(try clear hi);refine hK.out _ _ ⟨HS0_,HS1_,HS2_,HS3_,HS4_,HS5_⟩ (fun hHeld=>?_);clear hK K;refine norm_ (a':=?_) ?_ ?_;rotate_left
            ·show Act.put _ (some 32) _=_;simp only [Act.put,List.setIfInBounds_toArray,List.set_cons_zero,List.set_cons_succ,i64_w,i32_w];rfl
            refine pure_ (i:=15) (N:=some 33) (v:=?_) (a':=?_) #[true,true,true,true,true,true,true,true,true,true,true,true,true,true,true,true,false] rfl rfl (any_of HT_.out (by kernel_rfl)) (fun _ _ _ h=>h) (Or.inl ⟨by rfl,?_⟩) ?_ ?_;rotate_left
            ·intro w';go_simp;with_reducible rfl
            rotate_left
            ·simp only [Act.put,List.setIfInBounds_toArray,List.set_cons_zero,List.set_cons_succ,i64_w,i32_w];rfl
            refine pure_ (i:=16) (N:=some 34) (v:=?_) (a':=?_) #[true,true,true,true,true,true,true,true,true,true,true,true,true,true,true,true,true] rfl rfl (any_of HT_.out (by kernel_rfl)) (fun _ _ _ h=>h) (Or.inl ⟨by rfl,?_⟩) ?_ ?_;rotate_left
            ·intro w';go_simp;with_reducible rfl
            rotate_left
            ·simp only [Act.put,List.setIfInBounds_toArray,List.set_cons_zero,List.set_cons_succ,i64_w,i32_w];rfl
            refine done_ (done_of HT_.out (by kernel_rfl)) ?_;(try go_wp2);have n0_:=Aside0.mk (Kd.R_drew HO_0.out);have n1_:=Aside0.mk (Kept.drew HK.out);have n2_:=Aside0.mk (bd1 HB.out);clear HO_0;clear HK;clear HB;have HO_0:=n0_;have HK:=n1_;have HB:=n2_;clear n0_ n1_ n2_;have p583:0≤((ji9):Int):=of_decide_eq_true (by first|(with_reducible assumption)|assumption);have q583:(ji9) < (x0_2.length:Int):=of_decide_eq_true (by first|(with_reducible assumption)|assumption);obtain ⟨ad583,e583,hx583_0,hx583_1,hx583_2⟩:=at_T33 (Kd.R_reads' HO_0.out).2.2 (ji9) p583 q583;obtain rfl:ad580=ad583:=(by injection e583);replace p583:=eq_true p583;replace q583:=eq_true q583;have p584:0≤(x9_2:Int):=of_decide_eq_true (by first|(with_reducible assumption)|assumption);have q584:x9_2 < (x0_2.length:Int):=of_decide_eq_true (by first|(with_reducible assumption)|assumption);obtain ⟨ad584,e584,hx584_0,hx584_1,hx584_2⟩:=at_T33 (Kd.R_reads' HO_0.out).2.2 x9_2 p584 q584;obtain rfl:ad580=ad584:=(by injection e584);replace p584:=eq_true p584;replace q584:=eq_true q584;have p14:0≤(x9_2:Int):=of_decide_eq_true (by first|(with_reducible assumption)|assumption);have q14:(x9_2:Int) < ((x0_2.length:Int):Int):=of_decide_eq_true (by first|(with_reducible assumption)|assumption);obtain ⟨go14,co14,eo14,gb14,gl14,cl14,HG14⟩:=Kd.R_form HO_0.out (by omega);(first|cases eo14|(injection eo14 with ea_ en_ ec_;(first|subst ea_|(injection ea_ with ea_;subst ea_));subst ec_;clear en_));have GB14:=Aside0.mk gb14;have GG14:=Aside0.mk HG14;clear gb14 gl14 HG14;have HMgo14:=Aside0.mk (show (P0_ go14∨w.heap.size≤go14) from (HO_0.out.1 _ rfl));(first|simp only [add_plain] at hx580_0|skip);(first|simp only [add_plain] at hx580_1|skip);(first|simp only [add_plain] at hx580_2|skip);(first|simp only [add_plain] at hx581_0|skip);(first|simp only [add_plain] at hx581_1|skip);(first|simp only [add_plain] at hx581_2|skip);(first|simp only [add_plain] at hx583_0|skip);(first|simp only [add_plain] at hx583_1|skip);(first|simp only [add_plain] at hx583_2|skip);(first|simp only [add_plain] at hx584_0|skip);(first|simp only [add_plain] at hx584_1|skip);(first|simp only [add_plain] at hx584_2|skip);obtain ⟨ce14,hcl14,hM14,hcc14,hfr14⟩:=Kd.R_elem HO_0.out z33 (x9_2:Int) p14 q14;obtain rfl:=k33_openM hM14;have hx14_0:World.cell? _ ⟨go14,(x9_2:Int).toNat * 3,none⟩=some (.string ((rd_T33 x0_2 x9_2).f0)):=hcc14 0 _ rfl;have hx14_1:World.cell? _ ⟨go14,(x9_2:Int).toNat * 3 + 1,none⟩=some (.int .i64 ((rd_T33 x0_2 x9_2).f1)):=hcc14 1 _ rfl;have hx14_2:World.cell? _ ⟨go14,(x9_2:Int).toNat * 3 + 2,none⟩=some (.string ((rd_T33 x0_2 x9_2).f2)):=hcc14 2 _ rfl;have hf14_0:World.frozen? _ ⟨go14,(x9_2:Int).toNat * 3,none⟩=false:=hfr14 0;have hf14_1:World.frozen? _ ⟨go14,(x9_2:Int).toNat * 3 + 1,none⟩=false:=hfr14 1;have hf14_2:World.frozen? _ ⟨go14,(x9_2:Int).toNat * 3 + 2,none⟩=false:=hfr14 2;clear hcl14 hcc14 hfr14 hM14;replace p14:=eq_true p14;replace q14:=eq_true q14;obtain ⟨ce20,hcl20,hM20,hcc20,hfr20⟩:=Kd.R_elem HO_0.out z33 (x9_2:Int) (of_decide_eq_true (by first|(with_reducible assumption)|assumption)) (by have h_:(x9_2:Int) < ((x0_2.length:Int):Int):=of_decide_eq_true (by first|(with_reducible assumption)|assumption);first|exact h_|(have e_:=(Kd.R_reads' HO_0.out).1;omega)|simpa using h_);obtain rfl:=k33_openM hM20;have HP20:=(Kd.R_seg HO_0.out (x9_2:Int) (of_decide_eq_true (by first|(with_reducible assumption)|assumption)) (by have h_:(x9_2:Int) < ((x0_2.length:Int):Int):=of_decide_eq_true (by first|(with_reducible assumption)|assumption);first|exact h_|(have e_:=(Kd.R_reads' HO_0.out).1;omega)|simpa using h_) (seg:=[.string ((rd_T33 x0_2 (ji9)).f0),.int .i64 ((rd_T33 x0_2 (ji9)).f1),.string ((rd_T33 x0_2 (ji9)).f2)]) (j:=0) hcl20 hcc20 (show 3≤3 from by decide) (x':=(⟨(rd_T33 x0_2 (ji9)).f0,(rd_T33 x0_2 (ji9)).f1,(rd_T33 x0_2 (ji9)).f2⟩:S33)) (k33_mkM _ _ _ (⟨(rd_T33 x0_2 (ji9)).f0,(rd_T33 x0_2 (ji9)).f1,(rd_T33 x0_2 (ji9)).f2⟩:S33) ) (fun _ hk=>hk)).1;rw [← Ny585.out] at HP20;have HQ20:=Aside0.mk HP20;clear hcl20 hcc20 hfr20 hM20 HP20;have p15:0≤((ji9):Int):=of_decide_eq_true (by first|(with_reducible assumption)|assumption);have q15:((ji9):Int) < ((x0_2.length:Int):Int):=of_decide_eq_true (by first|(with_reducible assumption)|assumption);obtain ⟨ce15,hcl15,hM15,hcc15,hfr15⟩:=Kd.R_elem HQ20.out z33 ((ji9):Int) p15 q15;obtain rfl:=k33_openM hM15;have hx15_0:World.cell? _ ⟨go14,((ji9):Int).toNat * 3,none⟩=some (.string ((rd_T33 y585 (ji9)).f0)):=hcc15 0 _ rfl;have hx15_1:World.cell? _ ⟨go14,((ji9):Int).toNat * 3 + 1,none⟩=some (.int .i64 ((rd_T33 y585 (ji9)).f1)):=hcc15 1 _ rfl;have hx15_2:World.cell? _ ⟨go14,((ji9):Int).toNat * 3 + 2,none⟩=some (.string ((rd_T33 y585 (ji9)).f2)):=hcc15 2 _ rfl;have hf15_0:World.frozen? _ ⟨go14,((ji9):Int).toNat * 3,none⟩=false:=hfr15 0;have hf15_1:World.frozen? _ ⟨go14,((ji9):Int).toNat * 3 + 1,none⟩=false:=hfr15 1;have hf15_2:World.frozen? _ ⟨go14,((ji9):Int).toNat * 3 + 2,none⟩=false:=hfr15 2;clear hcl15 hcc15 hfr15 hM15;replace p15:=eq_true p15;replace q15:=eq_true q15;obtain ⟨ce21,hcl21,hM21,hcc21,hfr21⟩:=Kd.R_elem HQ20.out z33 ((ji9):Int) (of_decide_eq_true (by first|(with_reducible assumption)|assumption)) (by have h_:((ji9):Int) < ((x0_2.length:Int):Int):=of_decide_eq_true (by first|(with_reducible assumption)|assumption);first|exact h_|(have e_:=(Kd.R_reads' HO_0.out).1;omega)|simpa using h_);obtain rfl:=k33_openM hM21;have HP21:=(Kd.R_seg HQ20.out ((ji9):Int) (of_decide_eq_true (by first|(with_reducible assumption)|assumption)) (by have h_:((ji9):Int) < ((x0_2.length:Int):Int):=of_decide_eq_true (by first|(with_reducible assumption)|assumption);first|exact h_|(have e_:=(Kd.R_reads' HO_0.out).1;omega)|simpa using h_) (seg:=[.string ((rd_T33 x0_2 x9_2).f0),.int .i64 ((rd_T33 x0_2 x9_2).f1),.string ((rd_T33 x0_2 x9_2).f2)]) (j:=0) hcl21 hcc21 (show 3≤3 from by decide) (x':=(⟨(rd_T33 x0_2 x9_2).f0,(rd_T33 x0_2 x9_2).f1,(rd_T33 x0_2 x9_2).f2⟩:S33)) (k33_mkM _ _ _ (⟨(rd_T33 x0_2 x9_2).f0,(rd_T33 x0_2 x9_2).f1,(rd_T33 x0_2 x9_2).f2⟩:S33) ) (fun _ hk=>hk)).1;rw [← Ny586.out] at HP21;have HQ21:=Aside0.mk HP21;clear hcl21 hcc21 hfr21 hM21 HP21;refine start_ (n:=18) (S:=fun w'=>w'.cell? ⟨go14,(((ji9)):Int).toNat * 3,none⟩=some (.string ((rd_T33 x0_2 (ji9)).f0))∧w'.cell? ⟨go14,(((ji9)):Int).toNat * 3 + 1,none⟩=some (.int .i64 ((rd_T33 x0_2 (ji9)).f1))∧w'.cell? ⟨go14,(((ji9)):Int).toNat * 3 + 2,none⟩=some (.string ((rd_T33 x0_2 (ji9)).f2))∧w'.cell? ⟨go14,((x9_2).toNat * 3),none⟩=some (.string ((rd_T33 x0_2 x9_2).f0))∧w'.cell? ⟨go14,((x9_2).toNat * 3) + 1,none⟩=some (.int .i64 ((rd_T33 x0_2 x9_2).f1))∧w'.cell? ⟨go14,((x9_2).toNat * 3) + 2,none⟩=some (.string ((rd_T33 x0_2 x9_2).f2))) (ds:=[15,17]) #[false,false,false,false,false,false,false,false,false,false,false,false,false,false,false,false,false,false] (by kernel_rfl) rfl rfl ⟨hx583_0,hx583_1,hx583_2,hx584_0,hx584_1,hx584_2⟩ (fun hHeld=>?_);refine with_tabW api_File_85.tab6 api_File_85.bits6 (fun HT_ HW_=>?_);generalize w18.drew=w19 at HO_0 HK HB GG14 HQ20 HQ21 hf14_0 hf14_1 hf14_2 hf15_0 hf15_1 hf15_2 hx14_0 hx14_1 hx14_2 hx15_0 hx15_1 hx15_2 hx580_0 hx580_1 hx580_2 hx581_0 hx581_1 hx581_2 hx583_0 hx583_1 hx583_2 hx584_0 hx584_1 hx584_2 hHeld ⊢;(try (have hz15_0:=(World.cell?_setCell_other _ _ _ _ (by intro h_;simp only [Addr.mk.injEq,show k33.sz=3 from rfl] at h_;omega)).symm.trans ((World.cell?_setCell_other _ _ _ _ (by intro h_;simp only [Addr.mk.injEq,show k33.sz=3 from rfl] at h_;omega)).symm.trans hx15_0);simp only [show k33.sz=3 from rfl,Nat.add_zero] at hz15_0));(try (have hz15_1:=(World.cell?_setCell_other _ _ _ _ (by intro h_;simp only [Addr.mk.injEq,show k33.sz=3 from rfl] at h_;omega)).symm.trans hx15_1;simp only [show k33.sz=3 from rfl,Nat.add_zero] at hz15_1));(try (have hz15_2:=hx15_2;simp only [World.setCells,show k33.sz=3 from rfl,Nat.add_zero] at hz15_2));(try (have hg15_0:=(World.frozen?_setCell _ _ _ _).symm.trans ((World.frozen?_setCell _ _ _ _).symm.trans ((World.frozen?_setCell _ _ _ _).symm.trans hf15_0))));(try (have hg15_1:=(World.frozen?_setCell _ _ _ _).symm.trans ((World.frozen?_setCell _ _ _ _).symm.trans ((World.frozen?_setCell _ _ _ _).symm.trans hf15_1))));(try (have hg15_2:=(World.frozen?_setCell _ _ _ _).symm.trans ((World.frozen?_setCell _ _ _ _).symm.trans ((World.frozen?_setCell _ _ _ _).symm.trans hf15_2))));refine pure_ (i:=0) (N:=some 37) (v:=?_) (a':=?_) #[true,false,false,false,false,false,false,false,false,false,false,false,false,false,false,false,false,false] rfl rfl (any_of HT_.out (by kernel_rfl)) (fun _ _ _ h=>h) (Or.inl ⟨by rfl,?_⟩) ?_ ?_;rotate_left
            ·intro w';go_simp;with_reducible rfl
            rotate_left
            ·simp only [Act.put,List.setIfInBounds_toArray,List.set_cons_zero,List.set_cons_succ,i64_w,i32_w];rfl
            refine pure_ (i:=1) (N:=some 38) (v:=?_) (a':=?_) #[true,true,false,false,false,false,false,false,false,false,false,false,false,false,false,false,false,false] rfl rfl (any_of HT_.out (by kernel_rfl)) (fun _ _ _ h=>h) (Or.inl ⟨by rfl,?_⟩) ?_ ?_;rotate_left
            ·intro w';go_simp;with_reducible rfl
            rotate_left
            ·simp only [Act.put,List.setIfInBounds_toArray,List.set_cons_zero,List.set_cons_succ,i64_w,i32_w];rfl
            refine pure_ (i:=2) (N:=some 39) (v:=?_) (a':=?_) #[true,true,true,false,false,false,false,false,false,false,false,false,false,false,false,false,false,false] rfl rfl (any_of HT_.out (by kernel_rfl)) (fun _ _ _ h=>h) (Or.inl ⟨by rfl,?_⟩) ?_ ?_;rotate_left
            ·intro w';go_simp;with_reducible rfl
            rotate_left
            ·simp only [Act.put,List.setIfInBounds_toArray,List.set_cons_zero,List.set_cons_succ,i64_w,i32_w];rfl
            refine pure_ (i:=3) (N:=some 40) (v:=?_) (a':=?_) #[true,true,true,true,false,false,false,false,false,false,false,false,false,false,false,false,false,false] rfl rfl (any_of HT_.out (by kernel_rfl)) (fun _ _ _ h=>h) (Or.inl ⟨by rfl,?_⟩) ?_ ?_;rotate_left
            ·intro w';go_simp;with_reducible rfl
            rotate_left
            ·simp only [Act.put,List.setIfInBounds_toArray,List.set_cons_zero,List.set_cons_succ,i64_w,i32_w];rfl
            refine pure_ (i:=4) (N:=some 41) (v:=?_) (a':=?_) #[true,true,true,true,true,false,false,false,false,false,false,false,false,false,false,false,false,false] rfl rfl (any_of HT_.out (by kernel_rfl)) (fun _ _ _ h=>h) (Or.inl ⟨by rfl,?_⟩) ?_ ?_;rotate_left
            ·intro w';go_simp;with_reducible rfl
            rotate_left
            ·simp only [Act.put,List.setIfInBounds_toArray,List.set_cons_zero,List.set_cons_succ,i64_w,i32_w];rfl
            refine pure_ (i:=5) (N:=some 42) (v:=?_) (a':=?_) #[true,true,true,true,true,true,false,false,false,false,false,false,false,false,false,false,false,false] rfl rfl (any_of HT_.out (by kernel_rfl)) (fun _ _ _ h=>h) (Or.inl ⟨by rfl,?_⟩) ?_ ?_;rotate_left
            ·intro w';go_simp;with_reducible rfl
            rotate_left
            ·simp only [Act.put,List.setIfInBounds_toArray,List.set_cons_zero,List.set_cons_succ,i64_w,i32_w];rfl
            refine pure_ (i:=6) (N:=some 43) (v:=?_) (a':=?_) #[true,true,true,true,true,true,true,false,false,false,false,false,false,false,false,false,false,false] rfl rfl (any_of HT_.out (by kernel_rfl)) (fun _ _ _ h=>h) (Or.inl ⟨by rfl,?_⟩) ?_ ?_;rotate_left
            ·intro w';go_simp;with_reducible rfl
            rotate_left
            ·simp only [Act.put,List.setIfInBounds_toArray,List.set_cons_zero,List.set_cons_succ,i64_w,i32_w];rfl
            refine pure_ (i:=7) (N:=some 44) (v:=?_) (a':=?_) #[true,true,true,true,true,true,true,true,false,false,false,false,false,false,false,false,false,false] rfl rfl (any_of HT_.out (by kernel_rfl)) (fun _ _ _ h=>h) (Or.inl ⟨by rfl,?_⟩) ?_ ?_;rotate_left
            ·intro w';go_simp;with_reducible rfl
            rotate_left
            ·simp only [Act.put,List.setIfInBounds_toArray,List.set_cons_zero,List.set_cons_succ,i64_w,i32_w];rfl
            refine pure_ (i:=8) (N:=some 45) (v:=?_) (a':=?_) #[true,true,true,true,true,true,true,true,true,false,false,false,false,false,false,false,false,false] rfl rfl (any_of HT_.out (by kernel_rfl)) (fun _ _ _ h=>h) (Or.inl ⟨by rfl,?_⟩) ?_ ?_;rotate_left
            ·intro w';go_simp;with_reducible rfl
            rotate_left
            ·simp only [Act.put,List.setIfInBounds_toArray,List.set_cons_zero,List.set_cons_succ,i64_w,i32_w];rfl
            refine pure_ (i:=10) (N:=some 47) (v:=?_) (a':=?_) #[true,true,true,true,true,true,true,true,true,false,true,false,false,false,false,false,false,false] rfl rfl (any_of HT_.out (by kernel_rfl)) (fun _ _ _ h=>h) (Or.inl ⟨by rfl,?_⟩) ?_ ?_;rotate_left
            ·intro w';go_simp;with_reducible rfl
            rotate_left
            ·simp only [Act.put,List.setIfInBounds_toArray,List.set_cons_zero,List.set_cons_succ,i64_w,i32_w];rfl
            refine pure_ (i:=11) (N:=some 48) (v:=?_) (a':=?_) #[true,true,true,true,true,true,true,true,true,false,true,true,false,false,false,false,false,false] rfl rfl (any_of HT_.out (by kernel_rfl)) (fun _ _ _ h=>h) (Or.inl ⟨by rfl,?_⟩) ?_ ?_;rotate_left
            ·intro w';go_simp;with_reducible rfl
            rotate_left
            ·simp only [Act.put,List.setIfInBounds_toArray,List.set_cons_zero,List.set_cons_succ,i64_w,i32_w];rfl
            refine pure_ (i:=12) (N:=some 49) (v:=?_) (a':=?_) #[true,true,true,true,true,true,true,true,true,false,true,true,true,false,false,false,false,false] rfl rfl (any_of HT_.out (by kernel_rfl)) (fun _ _ _ h=>h) (Or.inl ⟨by rfl,?_⟩) ?_ ?_;rotate_left
            ·intro w';go_simp;with_reducible rfl
            rotate_left
            ·simp only [Act.put,List.setIfInBounds_toArray,List.set_cons_zero,List.set_cons_succ,i64_w,i32_w];rfl
            refine take_ (i:=9) (N:=some 46) (v:=?_) (a':=?_) #[true,true,true,true,true,true,true,true,true,true,true,true,true,false,false,false,false,false] rfl rfl (take_ofW HT_.out HW_.out (by kernel_rfl)) (fun _ _ _ h=>h) (Or.inl ⟨by rfl,?_⟩) hHeld ?_ ?_;rotate_left
            ·rintro w' ⟨s0,s1,s2,s3,s4,s5⟩;go_simp;with_reducible rfl
            rotate_left
            ·simp only [Act.put,List.setIfInBounds_toArray,List.set_cons_zero,List.set_cons_succ,i64_w,i32_w];rfl
            refine take_ (i:=13) (N:=some 50) (v:=?_) (a':=?_) #[true,true,true,true,true,true,true,true,true,true,true,true,true,true,false,false,false,false] rfl rfl (take_ofW HT_.out HW_.out (by kernel_rfl)) (fun _ _ _ h=>h) (Or.inl ⟨by rfl,?_⟩) hHeld ?_ ?_;rotate_left
            ·rintro w' ⟨s0,s1,s2,s3,s4,s5⟩;go_simp;with_reducible rfl
            rotate_left
            ·simp only [Act.put,List.setIfInBounds_toArray,List.set_cons_zero,List.set_cons_succ,i64_w,i32_w];rfl
            refine pure_ (i:=14) (N:=some 51) (v:=?_) (a':=?_) #[true,true,true,true,true,true,true,true,true,true,true,true,true,true,true,false,false,false] rfl rfl (any_of HT_.out (by kernel_rfl)) (fun _ _ _ h=>h) (Or.inl ⟨by rfl,?_⟩) ?_ ?_;rotate_left
            ·intro w';go_simp;with_reducible rfl
            rotate_left
            ·simp only [Act.put,List.setIfInBounds_toArray,List.set_cons_zero,List.set_cons_succ,i64_w,i32_w];rfl
            refine last_ (i:=15) (N:=none) #[true,true,true,true,true,true,true,true,true,true,true,true,true,true,true,true,false,false] rfl rfl (one_of HT_.out (by kernel_rfl)) (by decide) (fun K hK=>?_);refine skip_ (w1:=?_) (by rfl) rfl ?_ ?_;rotate_left
            ·go_simp;rfl
            refine hK.out _ _ ?_;clear hK K;refine pure_ (i:=16) (N:=some 52) (v:=?_) (a':=?_) #[true,true,true,true,true,true,true,true,true,true,true,true,true,true,true,true,true,false] rfl rfl (any_of HT_.out (by kernel_rfl)) (fun _ _ _ h=>h) (Or.inl ⟨by rfl,?_⟩) ?_ ?_;rotate_left
            ·intro w';go_simp;with_reducible rfl
            rotate_left
            ·simp only [Act.put,List.setIfInBounds_toArray,List.set_cons_zero,List.set_cons_succ,i64_w,i32_w];rfl
            refine last_ (i:=17) (N:=none) #[true,true,true,true,true,true,true,true,true,true,true,true,true,true,true,true,true,true] rfl rfl (one_of HT_.out (by kernel_rfl)) (by decide) (fun K hK=>?_);refine skip_ (w1:=?_) (by rfl) rfl ?_ ?_;rotate_left
            ·go_simp;rfl
            refine hK.out _ _ ?_;clear hK K;refine done_ (done_of HT_.out (by kernel_rfl)) ?_;(try go_wp2);go_roundg k2
            case measure=>have:=HK1.out;have:=HK2.out;omega
            case rel=>exact ⟨(y586),(ji9),(by first|rfl|(simp;done)|(simp only [← hji9] <;> (first|rfl|simp))|(simp [*];done)),H',⟨by have:=HK1.out;have:=HK2.out;omega⟩,⟨by (with_reducible repeat (first|apply Kd.R_alloc|apply Kd.R_drewN|apply Kd.R_drew));exact HQ21.out⟩,⟨by repeat (first|(with_reducible first|exact HK.out|apply Kept.alloc|apply Kept.drewN|apply Kept.drew|refine Kept.setCell ?_ HMgo14.out _|refine Kept.setCell ?_ HMgo14.out _|refine Kept.setCell ?_ HMgo14.out _|refine Kept.setCell ?_ HMgo14.out _|refine Kept.setCell ?_ HMgo14.out _|refine Kept.setCell ?_ HMgo14.out _)|exact HK.out)⟩,⟨by repeat (first|(with_reducible first|exact HB.out|apply bal|apply bdN|apply bd1|refine below_set ?_ GB14.out|refine below_set ?_ GB14.out|refine below_set ?_ GB14.out|refine below_set ?_ GB14.out|refine below_set ?_ GB14.out|refine below_set ?_ GB14.out)|exact HB.out)⟩⟩
           ·rw [if_neg c13] at H;have c13b0:decide (t582 < 0)=false:=decide_eq_false c13;clear c13;have H':=Aside0.mk H;clear H;(try go_wp2);have n0_:=Aside0.mk (Kd.R_drew HO_0.out);have n1_:=Aside0.mk (Kept.drew HK.out);have n2_:=Aside0.mk (bd1 HB.out);clear HO_0;clear HK;clear HB;have HO_0:=n0_;have HK:=n1_;have HB:=n2_;clear n0_ n1_ n2_;obtain ⟨Ao23,co23,eo23⟩:=Kd.R_slice HO_0.out;(first|subst eo23|(injection eo23 with f1_ f2_ f3_;have f4_:=f1_.symm;have f5_:=f3_.symm;clear f1_ f2_ f3_;subst f4_;subst f5_));have p580:0≤(x9_2:Int):=of_decide_eq_true (by first|(with_reducible assumption)|assumption);have q580:x9_2 < (x0_2.length:Int):=of_decide_eq_true (by first|(with_reducible assumption)|assumption);obtain ⟨ad580,e580,hx580_0,hx580_1,hx580_2⟩:=at_T33 (Kd.R_reads' HO_0.out).2.2 x9_2 p580 q580;cases e580;replace p580:=eq_true p580;replace q580:=eq_true q580;have p581:0≤((ji9):Int):=of_decide_eq_true (by first|(with_reducible assumption)|assumption);have q581:(ji9) < (x0_2.length:Int):=of_decide_eq_true (by first|(with_reducible assumption)|assumption);obtain ⟨ad581,e581,hx581_0,hx581_1,hx581_2⟩:=at_T33 (Kd.R_reads' HO_0.out).2.2 (ji9) p581 q581;obtain rfl:ad580=ad581:=(by injection e581);replace p581:=eq_true p581;replace q581:=eq_true q581;refine start_ (n:=17) (S:=fun w'=>w'.cell? (ad580.add ((x9_2).toNat * 3))=some (.string ((rd_T33 x0_2 x9_2).f0))∧w'.cell? ⟨(ad580.add ((x9_2).toNat * 3)).block,(ad580.add ((x9_2).toNat * 3)).off + 1,none⟩=some (.int .i64 ((rd_T33 x0_2 x9_2).f1))∧w'.cell? ⟨(ad580.add ((x9_2).toNat * 3)).block,(ad580.add ((x9_2).toNat * 3)).off + 2,none⟩=some (.string ((rd_T33 x0_2 x9_2).f2))∧w'.cell? (ad580.add (((ji9)).toNat * 3))=some (.string ((rd_T33 x0_2 (ji9)).f0))∧w'.cell? ⟨(ad580.add (((ji9)).toNat * 3)).block,(ad580.add (((ji9)).toNat * 3)).off + 1,none⟩=some (.int .i64 ((rd_T33 x0_2 (ji9)).f1))∧w'.cell? ⟨(ad580.add (((ji9)).toNat * 3)).block,(ad580.add (((ji9)).toNat * 3)).off + 2,none⟩=some (.string ((rd_T33 x0_2 (ji9)).f2))) (ds:=[]) #[false,false,false,false,false,false,false,false,false,false,false,false,false,false,false,false,false] (by kernel_rfl) rfl rfl ⟨hx580_0,hx580_1,hx580_2,hx581_0,hx581_1,hx581_2⟩ (fun hHeld=>?_);refine with_tabW api_File_85.tab4 api_File_85.bits4 (fun HT_ HW_=>?_);generalize wr.drew=w22 at HO_0 HK HB hx580_0 hx580_1 hx580_2 hx581_0 hx581_1 hx581_2 hHeld ⊢;refine pure_ (i:=0) (N:=some 18) (v:=?_) (a':=?_) #[true,false,false,false,false,false,false,false,false,false,false,false,false,false,false,false,false] rfl rfl (any_of HT_.out (by kernel_rfl)) (fun _ _ _ h=>h) (Or.inl ⟨by rfl,?_⟩) ?_ ?_;rotate_left
            ·intro w';go_simp;with_reducible rfl
            rotate_left
            ·simp only [Act.put,List.setIfInBounds_toArray,List.set_cons_zero,List.set_cons_succ,i64_w,i32_w];rfl
            refine pure_ (i:=1) (N:=some 19) (v:=?_) (a':=?_) #[true,true,false,false,false,false,false,false,false,false,false,false,false,false,false,false,false] rfl rfl (any_of HT_.out (by kernel_rfl)) (fun _ _ _ h=>h) (Or.inl ⟨by rfl,?_⟩) ?_ ?_;rotate_left
            ·intro w';go_simp;with_reducible rfl
            rotate_left
            ·simp only [Act.put,List.setIfInBounds_toArray,List.set_cons_zero,List.set_cons_succ,i64_w,i32_w];rfl
            refine pure_ (i:=2) (N:=some 20) (v:=?_) (a':=?_) #[true,true,true,false,false,false,false,false,false,false,false,false,false,false,false,false,false] rfl rfl (any_of HT_.out (by kernel_rfl)) (fun _ _ _ h=>h) (Or.inl ⟨by rfl,?_⟩) ?_ ?_;rotate_left
            ·intro w';go_simp;with_reducible rfl
            rotate_left
            ·simp only [Act.put,List.setIfInBounds_toArray,List.set_cons_zero,List.set_cons_succ,i64_w,i32_w];rfl
            refine pure_ (i:=3) (N:=some 21) (v:=?_) (a':=?_) #[true,true,true,true,false,false,false,false,false,false,false,false,false,false,false,false,false] rfl rfl (any_of HT_.out (by kernel_rfl)) (fun _ _ _ h=>h) (Or.inl ⟨by rfl,?_⟩) ?_ ?_;rotate_left
            ·intro w';go_simp;with_reducible rfl
            rotate_left
            ·simp only [Act.put,List.setIfInBounds_toArray,List.set_cons_zero,List.set_cons_succ,i64_w,i32_w];rfl
            refine pure_ (i:=4) (N:=some 22) (v:=?_) (a':=?_) #[true,true,true,true,true,false,false,false,false,false,false,false,false,false,false,false,false] rfl rfl (any_of HT_.out (by kernel_rfl)) (fun _ _ _ h=>h) (Or.inl ⟨by rfl,?_⟩) ?_ ?_;rotate_left
            ·intro w';go_simp;with_reducible rfl
            rotate_left
            ·simp only [Act.put,List.setIfInBounds_toArray,List.set_cons_zero,List.set_cons_succ,i64_w,i32_w];rfl
            refine pure_ (i:=5) (N:=some 23) (v:=?_) (a':=?_) #[true,true,true,true,true,true,false,false,false,false,false,false,false,false,false,false,false] rfl rfl (any_of HT_.out (by kernel_rfl)) (fun _ _ _ h=>h) (Or.inl ⟨by rfl,?_⟩) ?_ ?_;rotate_left
            ·intro w';go_simp;with_reducible rfl
            rotate_left
            ·simp only [Act.put,List.setIfInBounds_toArray,List.set_cons_zero,List.set_cons_succ,i64_w,i32_w];rfl
            refine pure_ (i:=6) (N:=some 24) (v:=?_) (a':=?_) #[true,true,true,true,true,true,true,false,false,false,false,false,false,false,false,false,false] rfl rfl (any_of HT_.out (by kernel_rfl)) (fun _ _ _ h=>h) (Or.inl ⟨by rfl,?_⟩) ?_ ?_;rotate_left
            ·intro w';go_simp;with_reducible rfl
            rotate_left
            ·simp only [Act.put,List.setIfInBounds_toArray,List.set_cons_zero,List.set_cons_succ,i64_w,i32_w];rfl
            refine pure_ (i:=7) (N:=some 25) (v:=?_) (a':=?_) #[true,true,true,true,true,true,true,true,false,false,false,false,false,false,false,false,false] rfl rfl (any_of HT_.out (by kernel_rfl)) (fun _ _ _ h=>h) (Or.inl ⟨by rfl,?_⟩) ?_ ?_;rotate_left
            ·intro w';go_simp;with_reducible rfl
            rotate_left
            ·simp only [Act.put,List.setIfInBounds_toArray,List.set_cons_zero,List.set_cons_succ,i64_w,i32_w];rfl
            refine pure_ (i:=9) (N:=some 27) (v:=?_) (a':=?_) #[true,true,true,true,true,true,true,true,false,true,false,false,false,false,false,false,false] rfl rfl (any_of HT_.out (by kernel_rfl)) (fun _ _ _ h=>h) (Or.inl ⟨by rfl,?_⟩) ?_ ?_;rotate_left
            ·intro w';go_simp;with_reducible rfl
            rotate_left
            ·simp only [Act.put,List.setIfInBounds_toArray,List.set_cons_zero,List.set_cons_succ,i64_w,i32_w];rfl
            refine pure_ (i:=10) (N:=some 28) (v:=?_) (a':=?_) #[true,true,true,true,true,true,true,true,false,true,true,false,false,false,false,false,false] rfl rfl (any_of HT_.out (by kernel_rfl)) (fun _ _ _ h=>h) (Or.inl ⟨by rfl,?_⟩) ?_ ?_;rotate_left
            ·intro w';go_simp;with_reducible rfl
            rotate_left
            ·simp only [Act.put,List.setIfInBounds_toArray,List.set_cons_zero,List.set_cons_succ,i64_w,i32_w];rfl
            refine pure_ (i:=11) (N:=some 29) (v:=?_) (a':=?_) #[true,true,true,true,true,true,true,true,false,true,true,true,false,false,false,false,false] rfl rfl (any_of HT_.out (by kernel_rfl)) (fun _ _ _ h=>h) (Or.inl ⟨by rfl,?_⟩) ?_ ?_;rotate_left
            ·intro w';go_simp;with_reducible rfl
            rotate_left
            ·simp only [Act.put,List.setIfInBounds_toArray,List.set_cons_zero,List.set_cons_succ,i64_w,i32_w];rfl
            refine pure_ (i:=12) (N:=some 30) (v:=?_) (a':=?_) #[true,true,true,true,true,true,true,true,false,true,true,true,true,false,false,false,false] rfl rfl (any_of HT_.out (by kernel_rfl)) (fun _ _ _ h=>h) (Or.inl ⟨by rfl,?_⟩) ?_ ?_;rotate_left
            ·intro w';go_simp;with_reducible rfl
            rotate_left
            ·simp only [Act.put,List.setIfInBounds_toArray,List.set_cons_zero,List.set_cons_succ,i64_w,i32_w];rfl
            refine take_ (i:=8) (N:=some 26) (v:=?_) (a':=?_) #[true,true,true,true,true,true,true,true,true,true,true,true,true,false,false,false,false] rfl rfl (take_ofW HT_.out HW_.out (by kernel_rfl)) (fun _ _ _ h=>h) (Or.inl ⟨by rfl,?_⟩) hHeld ?_ ?_;rotate_left
            ·rintro w' ⟨s0,s1,s2,s3,s4,s5⟩;go_simp;with_reducible rfl
            rotate_left
            ·simp only [Act.put,List.setIfInBounds_toArray,List.set_cons_zero,List.set_cons_succ,i64_w,i32_w];rfl
            refine take_ (i:=13) (N:=some 31) (v:=?_) (a':=?_) #[true,true,true,true,true,true,true,true,true,true,true,true,true,true,false,false,false] rfl rfl (take_ofW HT_.out HW_.out (by kernel_rfl)) (fun _ _ _ h=>h) (Or.inl ⟨by rfl,?_⟩) hHeld ?_ ?_;rotate_left
            ·rintro w' ⟨s0,s1,s2,s3,s4,s5⟩;go_simp;with_reducible rfl
            rotate_left
            ·simp only [Act.put,List.setIfInBounds_toArray,List.set_cons_zero,List.set_cons_succ,i64_w,i32_w];rfl
            refine one_ (i:=14) (N:=some 32) #[true,true,true,true,true,true,true,true,true,true,true,true,true,true,true,false,false] rfl rfl (one_of HT_.out (by kernel_rfl)) (by decide) (fun K hK=>?_);refine Go.Proofs.YtmeofdpmddjbgaaDoor.Fnv.goes_ _ Tryd.func70 (by kernel_rfl) rfl #[.agg #[.string ((rd_T33 x0_2 x9_2).f0),.int .i64 ((rd_T33 x0_2 x9_2).f1),.string ((rd_T33 x0_2 x9_2).f2)],.agg #[.string ((rd_T33 x0_2 (ji9)).f0),.int .i64 ((rd_T33 x0_2 (ji9)).f1),.string ((rd_T33 x0_2 (ji9)).f2)]] (by rfl) rfl rfl (by (try simp only [List.map_toArray,List.map_cons,List.map_nil]);first|done|(simp only [hji9];rfl)|rfl|(simp only [List.length_drop,List.length_take];rfl)) (by rfl) ?_;with_reducible refine (tree_Sort_1.calls k2 ((rd_T33 x0_2 x9_2).f0) ((rd_T33 x0_2 x9_2).f1) ((rd_T33 x0_2 x9_2).f2) ((rd_T33 x0_2 (ji9)).f0) ((rd_T33 x0_2 (ji9)).f1) ((rd_T33 x0_2 (ji9)).f2) t582 _ A12.out).mono ?_;rintro e w24 ⟨rfl,hb⟩;have HS0_:=(hb.cell (World.block_lt_of_cell? _ _ (hHeld.1))).trans (hHeld.1);have HS1_:=(hb.cell (World.block_lt_of_cell? _ _ (hHeld.2.1))).trans (hHeld.2.1);have HS2_:=(hb.cell (World.block_lt_of_cell? _ _ (hHeld.2.2.1))).trans (hHeld.2.2.1);have HS3_:=(hb.cell (World.block_lt_of_cell? _ _ (hHeld.2.2.2.1))).trans (hHeld.2.2.2.1);have HS4_:=(hb.cell (World.block_lt_of_cell? _ _ (hHeld.2.2.2.2.1))).trans (hHeld.2.2.2.2.1);have HS5_:=(hb.cell (World.block_lt_of_cell? _ _ (hHeld.2.2.2.2.2))).trans (hHeld.2.2.2.2.2);refine ⟨_,rfl,?_⟩;have n0_:=Aside0.mk (Kd.R_below (by (with_reducible repeat (first|apply Kd.R_alloc|apply Kd.R_drewN|apply Kd.R_drew));exact HO_0.out) hb);have n1_:=Aside0.mk (Kept.below (S:=(fun k_=>P0_ k_)) (by repeat (first|(with_reducible first|exact HK.out|apply Kept.alloc|apply Kept.drewN|apply Kept.drew)|exact HK.out)) hb);have n2_:=Aside0.mk (below_step (by repeat (first|(with_reducible first|exact HB.out|apply bal|apply bdN|apply bd1)|exact HB.out)) hb);clear HO_0;clear HK;clear HB;have HO_0:=n0_;have HK:=n1_;have HB:=n2_;clear n0_ n1_ n2_;(try clear hb);(try clear hb2);(try clear hk);(try clear hi);refine hK.out _ _ ⟨HS0_,HS1_,HS2_,HS3_,HS4_,HS5_⟩ (fun hHeld=>?_);clear hK K;refine norm_ (a':=?_) ?_ ?_;rotate_left
            ·show Act.put _ (some 32) _=_;simp only [Act.put,List.setIfInBounds_toArray,List.set_cons_zero,List.set_cons_succ,i64_w,i32_w];rfl
            refine pure_ (i:=15) (N:=some 33) (v:=?_) (a':=?_) #[true,true,true,true,true,true,true,true,true,true,true,true,true,true,true,true,false] rfl rfl (any_of HT_.out (by kernel_rfl)) (fun _ _ _ h=>h) (Or.inl ⟨by rfl,?_⟩) ?_ ?_;rotate_left
            ·intro w';go_simp;with_reducible rfl
            rotate_left
            ·simp only [Act.put,List.setIfInBounds_toArray,List.set_cons_zero,List.set_cons_succ,i64_w,i32_w];rfl
            refine pure_ (i:=16) (N:=some 34) (v:=?_) (a':=?_) #[true,true,true,true,true,true,true,true,true,true,true,true,true,true,true,true,true] rfl rfl (any_of HT_.out (by kernel_rfl)) (fun _ _ _ h=>h) (Or.inl ⟨by rfl,?_⟩) ?_ ?_;rotate_left
            ·intro w';go_simp;with_reducible rfl
            rotate_left
            ·simp only [Act.put,List.setIfInBounds_toArray,List.set_cons_zero,List.set_cons_succ,i64_w,i32_w];rfl
            refine done_ (done_of HT_.out (by kernel_rfl)) ?_;(try go_wp2);go_roundg k2
            case measure=>have:=HK1.out;have:=HK2.out;omega
            case rel=>exact ⟨(x0_2),(wrap64 (x8_1 + 1)),(by first|rfl|(simp;done)|(simp [*];done)),H',⟨by have:=HK1.out;have:=HK2.out;omega⟩,⟨by (with_reducible repeat (first|apply Kd.R_alloc|apply Kd.R_drewN|apply Kd.R_drew));exact HO_0.out⟩,⟨by repeat (first|(with_reducible first|exact HK.out|apply Kept.alloc|apply Kept.drewN|apply Kept.drew)|exact HK.out)⟩,⟨by repeat (first|(with_reducible first|exact HB.out|apply bal|apply bdN|apply bd1)|exact HB.out)⟩⟩
          ·rw [if_neg c11] at H;exact absurd H (by simp)
         ·rw [if_neg c10] at H;exact absurd H (by simp)
        ·rw [if_neg c8] at H;exact absurd H (by simp)
       ·rw [if_neg c7] at H;exact absurd H (by simp)
      ·rw [if_neg c6] at H;have c6b0:decide (a1 < x9_2)=false:=decide_eq_false c6;clear c6;have H':=Aside0.mk H;clear H;(try go_wp2);have n0_:=Aside0.mk (Kd.R_drew HO_0.out);have n1_:=Aside0.mk (Kept.drew HK.out);have n2_:=Aside0.mk (bd1 HB.out);clear HO_0;clear HK;clear HB;have HO_0:=n0_;have HK:=n1_;have HB:=n2_;clear n0_ n1_ n2_;refine start_ (n:=17) (S:=fun w'=>True) (ds:=[]) #[false,false,false,false,false,false,false,false,false,false,false,false,false,false,false,false,false] (by kernel_rfl) rfl rfl trivial (fun hHeld=>?_);refine with_tabW api_File_85.tab4 api_File_85.bits4 (fun HT_ HW_=>?_);generalize wr.drew=w25 at HO_0 HK HB hHeld ⊢;refine pure_ (i:=0) (N:=some 18) (v:=?_) (a':=?_) #[true,false,false,false,false,false,false,false,false,false,false,false,false,false,false,false,false] rfl rfl (any_of HT_.out (by kernel_rfl)) (fun _ _ _ h=>h) (Or.inl ⟨by rfl,?_⟩) ?_ ?_;rotate_left
       ·intro w';go_simp;with_reducible rfl
       rotate_left
       ·simp only [Act.put,List.setIfInBounds_toArray,List.set_cons_zero,List.set_cons_succ,i64_w,i32_w];rfl
       refine pure_ (i:=1) (N:=some 19) (v:=?_) (a':=?_) #[true,true,false,false,false,false,false,false,false,false,false,false,false,false,false,false,false] rfl rfl (any_of HT_.out (by kernel_rfl)) (fun _ _ _ h=>h) (Or.inl ⟨by rfl,?_⟩) ?_ ?_;rotate_left
       ·intro w';go_simp;with_reducible rfl
       rotate_left
       ·simp only [Act.put,List.setIfInBounds_toArray,List.set_cons_zero,List.set_cons_succ,i64_w,i32_w];rfl
       refine pure_ (i:=2) (N:=some 20) (v:=?_) (a':=?_) #[true,true,true,false,false,false,false,false,false,false,false,false,false,false,false,false,false] rfl rfl (any_of HT_.out (by kernel_rfl)) (fun _ _ _ h=>h) (Or.inl ⟨by rfl,?_⟩) ?_ ?_;rotate_left
       ·intro w';go_simp;with_reducible rfl
       rotate_left
       ·simp only [Act.put,List.setIfInBounds_toArray,List.set_cons_zero,List.set_cons_succ,i64_w,i32_w];rfl
       refine pure_ (i:=3) (N:=some 21) (v:=?_) (a':=?_) #[true,true,true,true,false,false,false,false,false,false,false,false,false,false,false,false,false] rfl rfl (any_of HT_.out (by kernel_rfl)) (fun _ _ _ h=>h) (Or.inl ⟨by rfl,?_⟩) ?_ ?_;rotate_left
       ·intro w';go_simp;with_reducible rfl
       rotate_left
       ·simp only [Act.put,List.setIfInBounds_toArray,List.set_cons_zero,List.set_cons_succ,i64_w,i32_w];rfl
       refine pure_ (i:=4) (N:=some 22) (v:=undef) (a':=?_) #[true,true,true,true,true,false,false,false,false,false,false,false,false,false,false,false,false] rfl rfl (any_of HT_.out (by kernel_rfl)) (fun _ _ _ h=>h) (Or.inr ⟨by rfl,rfl⟩) ?_ ?_;rotate_left
       ·simp only [Act.put,List.setIfInBounds_toArray,List.set_cons_zero,List.set_cons_succ,i64_w,i32_w];rfl
       refine pure_ (i:=5) (N:=some 23) (v:=undef) (a':=?_) #[true,true,true,true,true,true,false,false,false,false,false,false,false,false,false,false,false] rfl rfl (any_of HT_.out (by kernel_rfl)) (fun _ _ _ h=>h) (Or.inr ⟨by rfl,rfl⟩) ?_ ?_;rotate_left
       ·simp only [Act.put,List.setIfInBounds_toArray,List.set_cons_zero,List.set_cons_succ,i64_w,i32_w];rfl
       refine pure_ (i:=6) (N:=some 24) (v:=undef) (a':=?_) #[true,true,true,true,true,true,true,false,false,false,false,false,false,false,false,false,false] rfl rfl (any_of HT_.out (by kernel_rfl)) (fun _ _ _ h=>h) (Or.inr ⟨by rfl,rfl⟩) ?_ ?_;rotate_left
       ·simp only [Act.put,List.setIfInBounds_toArray,List.set_cons_zero,List.set_cons_succ,i64_w,i32_w];rfl
       refine pure_ (i:=7) (N:=some 25) (v:=undef) (a':=?_) #[true,true,true,true,true,true,true,true,false,false,false,false,false,false,false,false,false] rfl rfl (any_of HT_.out (by kernel_rfl)) (fun _ _ _ h=>h) (Or.inr ⟨by rfl,rfl⟩) ?_ ?_;rotate_left
       ·simp only [Act.put,List.setIfInBounds_toArray,List.set_cons_zero,List.set_cons_succ,i64_w,i32_w];rfl
       refine pure_ (i:=8) (N:=some 26) (v:=undef) (a':=?_) #[true,true,true,true,true,true,true,true,true,false,false,false,false,false,false,false,false] rfl rfl (any_of HT_.out (by kernel_rfl)) (fun _ _ _ h=>h) (Or.inr ⟨by rfl,rfl⟩) ?_ ?_;rotate_left
       ·simp only [Act.put,List.setIfInBounds_toArray,List.set_cons_zero,List.set_cons_succ,i64_w,i32_w];rfl
       refine pure_ (i:=9) (N:=some 27) (v:=undef) (a':=?_) #[true,true,true,true,true,true,true,true,true,true,false,false,false,false,false,false,false] rfl rfl (any_of HT_.out (by kernel_rfl)) (fun _ _ _ h=>h) (Or.inr ⟨by rfl,rfl⟩) ?_ ?_;rotate_left
       ·simp only [Act.put,List.setIfInBounds_toArray,List.set_cons_zero,List.set_cons_succ,i64_w,i32_w];rfl
       refine pure_ (i:=10) (N:=some 28) (v:=undef) (a':=?_) #[true,true,true,true,true,true,true,true,true,true,true,false,false,false,false,false,false] rfl rfl (any_of HT_.out (by kernel_rfl)) (fun _ _ _ h=>h) (Or.inr ⟨by rfl,rfl⟩) ?_ ?_;rotate_left
       ·simp only [Act.put,List.setIfInBounds_toArray,List.set_cons_zero,List.set_cons_succ,i64_w,i32_w];rfl
       refine pure_ (i:=11) (N:=some 29) (v:=undef) (a':=?_) #[true,true,true,true,true,true,true,true,true,true,true,true,false,false,false,false,false] rfl rfl (any_of HT_.out (by kernel_rfl)) (fun _ _ _ h=>h) (Or.inr ⟨by rfl,rfl⟩) ?_ ?_;rotate_left
       ·simp only [Act.put,List.setIfInBounds_toArray,List.set_cons_zero,List.set_cons_succ,i64_w,i32_w];rfl
       refine pure_ (i:=12) (N:=some 30) (v:=undef) (a':=?_) #[true,true,true,true,true,true,true,true,true,true,true,true,true,false,false,false,false] rfl rfl (any_of HT_.out (by kernel_rfl)) (fun _ _ _ h=>h) (Or.inr ⟨by rfl,rfl⟩) ?_ ?_;rotate_left
       ·simp only [Act.put,List.setIfInBounds_toArray,List.set_cons_zero,List.set_cons_succ,i64_w,i32_w];rfl
       refine pure_ (i:=13) (N:=some 31) (v:=undef) (a':=?_) #[true,true,true,true,true,true,true,true,true,true,true,true,true,true,false,false,false] rfl rfl (any_of HT_.out (by kernel_rfl)) (fun _ _ _ h=>h) (Or.inr ⟨by rfl,rfl⟩) ?_ ?_;rotate_left
       ·simp only [Act.put,List.setIfInBounds_toArray,List.set_cons_zero,List.set_cons_succ,i64_w,i32_w];rfl
       refine pure_ (i:=14) (N:=some 32) (v:=undef) (a':=?_) #[true,true,true,true,true,true,true,true,true,true,true,true,true,true,true,false,false] rfl rfl (any_of HT_.out (by kernel_rfl)) (fun _ _ _ h=>h) (Or.inr ⟨by rfl,rfl⟩) ?_ ?_;rotate_left
       ·simp only [Act.put,List.setIfInBounds_toArray,List.set_cons_zero,List.set_cons_succ,i64_w,i32_w];rfl
       refine pure_ (i:=15) (N:=some 33) (v:=undef) (a':=?_) #[true,true,true,true,true,true,true,true,true,true,true,true,true,true,true,true,false] rfl rfl (any_of HT_.out (by kernel_rfl)) (fun _ _ _ h=>h) (Or.inr ⟨by rfl,rfl⟩) ?_ ?_;rotate_left
       ·simp only [Act.put,List.setIfInBounds_toArray,List.set_cons_zero,List.set_cons_succ,i64_w,i32_w];rfl
       refine pure_ (i:=16) (N:=some 34) (v:=?_) (a':=?_) #[true,true,true,true,true,true,true,true,true,true,true,true,true,true,true,true,true] rfl rfl (any_of HT_.out (by kernel_rfl)) (fun _ _ _ h=>h) (Or.inl ⟨by rfl,?_⟩) ?_ ?_;rotate_left
       ·intro w';go_simp;with_reducible rfl
       rotate_left
       ·simp only [Act.put,List.setIfInBounds_toArray,List.set_cons_zero,List.set_cons_succ,i64_w,i32_w];rfl
       refine done_ (done_of HT_.out (by kernel_rfl)) ?_;(try go_wp2);go_roundg k2
       case measure=>have:=HK1.out;have:=HK2.out;omega
       case rel=>exact ⟨(x0_2),(wrap64 (x8_1 + 1)),(by first|rfl|(simp;done)|(simp [*];done)),H',⟨by have:=HK1.out;have:=HK2.out;omega⟩,⟨by (with_reducible repeat (first|apply Kd.R_alloc|apply Kd.R_drewN|apply Kd.R_drew));exact HO_0.out⟩,⟨by repeat (first|(with_reducible first|exact HK.out|apply Kept.alloc|apply Kept.drewN|apply Kept.drew)|exact HK.out)⟩,⟨by repeat (first|(with_reducible first|exact HB.out|apply bal|apply bdN|apply bd1)|exact HB.out)⟩⟩
   ·rw [if_neg c5] at H;have c5b0:decide (x8_1 < a2)=false:=decide_eq_false c5;clear c5;obtain rfl:=Option.some.inj H;go_wp2;(first|go_end0|((try simp only [Exit.inBlock,Exit.then]);refine bodyPost_ret (results_none rfl _ _ _) rfl ?_));exact ⟨by first|rfl|(simp [errW_none,errW_some] <;> rfl)|(simp [*,errW_none,errW_some] <;> rfl),by (with_reducible repeat (first|apply Kd.R_alloc|apply Kd.R_drewN|apply Kd.R_drew));exact HO_0.out,by repeat (first|(with_reducible first|exact HB.out|apply bal|apply bdN|apply bd1)|exact HB.out),by repeat (first|(with_reducible first|exact HK.out|apply Kept.alloc|apply Kept.drewN|apply Kept.drew)|exact HK.out)⟩
def api_File_92.l0:Nat→List (S33)→Int→Int→Int→Int→Option ((List (S33)))
 | 0,_,_,_,_,_=>none
 | k + 1,x0,x1,x2,x3,x10=>if x10 < x3 then (if 0≤(wrap64 (x2 + x10)) then (if (wrap64 (x2 + x10)) < (x0.length:Int) then (if 0≤(wrap64 (x1 + x10)) then (if (wrap64 (x1 + x10)) < (x0.length:Int) then (api_File_92.l0 k ((x0.set ((wrap64 (x1 + x10)):Int).toNat (⟨(rd_T33 x0 (wrap64 (x2 + x10))).f0,(rd_T33 x0 (wrap64 (x2 + x10))).f1,(rd_T33 x0 (wrap64 (x2 + x10))).f2⟩:S33)).set ((wrap64 (x2 + x10)):Int).toNat (⟨(rd_T33 x0 (wrap64 (x1 + x10))).f0,(rd_T33 x0 (wrap64 (x1 + x10))).f1,(rd_T33 x0 (wrap64 (x1 + x10))).f2⟩:S33)) x1 x2 x3 (wrap64 (x10 + 1))) else (none)) else (none)) else (none)) else (none)) else (some x0)
def api_File_92.f (k:Nat) (l0:List (S33)) (a1:Int) (a2:Int) (a3:Int)  : Option ((List (S33))):=api_File_92.l0 k l0 a1 a2 a3 0
def api_File_92.T3:Bool × List (List Nat × List Nat):=(true,[([],[]),([],[]),([],[]),([1,2],[1,2]),([],[]),([],[]),([],[]),([5,6],[5,6]),([],[]),([],[]),([],[]),([9,10],[9,10]),([8,11],[8,11]),([12],[12]),([],[]),([],[]),([],[]),([15,16],[15,16]),([14,17],[14,17]),([18],[18]),([0,3,0,1,2,3,8,9,10,11,12,13,19],[0,3]),([20,13,0,1,2,3,8,9,10,11,12,13,19],[13,20]),([4,7,0,1,2,3,4,5,6,7,8,9,10,11,12,13,14,15,16,17,18,19,20,21],[4,7]),([22,19,21,0,1,2,3,4,5,6,7,8,9,10,11,12,13,14,15,16,17,18,19,20,21],[19,22])])
def api_File_92.B3:List Nat:=[0,0,0,6,0,0,0,96,0,0,0,1536,3840,7936,0,0,0,98304,245760,507904,1048335,2096911,4194303,8388607]
theorem api_File_92.tab3:rtab .any (opsOf Tryd.f92 3)=api_File_92.T3:=by kernel_rfl
theorem api_File_92.bits3:waitsOk api_File_92.T3.2 api_File_92.B3=true:=by kernel_rfl
set_option maxHeartbeats 8000000 in
set_option maxRecDepth 100000 in
theorem api_File_92.calls (k:Nat) (P0_:Nat→Prop) (u9000_:Value) (l0:List (S33)) (a1:Int) (a2:Int) (a3:Int)  (r:List (S33)) (w0 w:World) (hB:Below w0.heap.size w0 w) (ho0:Kd.R k33 33 w w0.heap.size P0_ u9000_ l0) (h:api_File_92.f k l0 a1 a2 a3=some r) :
  Calls Tryd.prog 92 #[u9000_,.int .i64 a1,.int .i64 a2,.int .i64 a3,.func (.func 70) #[] #[]] w fun e w'=>e=.returned (.tuple #[])∧Kd.R k33 33 w' w0.heap.size (fun k_=>(P0_ k_∨w.heap.size≤k_)) u9000_ r∧Below w0.heap.size w0 w'∧Kept w w' (fun k_=>P0_ k_):=by
 have hu33:=Tryd.underlying33;have HO0:=Aside0.mk (show Kd.R k33 33 w w0.heap.size (fun k_=>(P0_ k_∨w.heap.size≤k_)) u9000_ l0 from Kd.R_mono ho0 (fun k_ hk=>(.inl hk)));have HK:=Aside0.mk (Kept.refl w (fun k_=>P0_ k_));have HW0:=Aside0.mk hB.size;have HB:=Aside0.mk hB;clear hB;have H:(api_File_92.l0 k l0 a1 a2 a3 0)=some r:=h;clear h;have H':=Aside0.mk H;clear H;go_enter Tryd.func92,Tryd.ntmps92;go_wp2;go_loopg [10] k (fun kq v10 w'=>∃ (x0_1:List (S33)) (x10_1:Int),v10=.int .i64 x10_1∧Aside0 (api_File_92.l0 kq x0_1 a1 a2 a3 x10_1=some r)∧Aside0 (kq≤k)∧Aside0 (Kd.R k33 33 w' w0.heap.size (fun k_=>(P0_ k_∨w.heap.size≤k_)) u9000_ x0_1)∧Aside0 (Kept w w' (fun k_=>P0_ k_))∧Aside0 (Below w0.heap.size w0 w'))
 case atStart=>exact ⟨(l0),(0),(by first|rfl|(simp;done)|(simp [*];done)),H',⟨Nat.le_refl _⟩,⟨by (with_reducible repeat (first|apply Kd.R_alloc|apply Kd.R_drewN|apply Kd.R_drew));exact HO0.out⟩,⟨by repeat (first|(with_reducible first|exact HK.out|apply Kept.alloc|apply Kept.drewN|apply Kept.drew)|exact HK.out)⟩,⟨by repeat (first|(with_reducible first|exact HB.out|apply bal|apply bdN|apply bd1)|exact HB.out)⟩⟩
 case round =>
  clear H';(try clear p2);obtain ⟨x0_1,x10_1,rfl,HA,HK1,HO_0,HK,HB⟩:=hrel
  cases gk with
  | zero=>exact absurd HA.out (by simp [api_File_92.l0])
  | succ k1 =>
   have H:=HA.out;clear HA;simp only [api_File_92.l0] at H;by_cases c6:x10_1 < a3
   ·rw [if_pos c6] at H;have c6b0:decide (x10_1 < a3)=true:=decide_eq_true c6;clear c6;obtain ⟨ji7,hji7⟩:∃ j_:Int,(wrap64 (a2 + x10_1))=j_:=⟨_,rfl⟩;(replace H:(if 0≤(ji7) then (if (ji7) < (x0_1.length:Int) then (if 0≤(wrap64 (a1 + x10_1)) then (if (wrap64 (a1 + x10_1)) < (x0_1.length:Int) then (api_File_92.l0 k1 ((x0_1.set ((wrap64 (a1 + x10_1)):Int).toNat (⟨(rd_T33 x0_1 (ji7)).f0,(rd_T33 x0_1 (ji7)).f1,(rd_T33 x0_1 (ji7)).f2⟩:S33)).set ((ji7):Int).toNat (⟨(rd_T33 x0_1 (wrap64 (a1 + x10_1))).f0,(rd_T33 x0_1 (wrap64 (a1 + x10_1))).f1,(rd_T33 x0_1 (wrap64 (a1 + x10_1))).f2⟩:S33)) a1 a2 a3 (wrap64 (x10_1 + 1))) else (none)) else (none)) else (none)) else (none))=some r:=by first|(rw [hji7] at H;exact H)|(simp only [hji7] at H ⊢;exact H));have hji7w:(IntKind.i64.wrap (a2 + x10_1))=ji7:=(i64_w _).trans hji7;by_cases c8:0≤(ji7)
    ·rw [if_pos c8] at H;have c8b0:decide (0≤(ji7))=true:=decide_eq_true c8;clear c8;by_cases c9:(ji7) < (x0_1.length:Int)
     ·rw [if_pos c9] at H;have c9b0:decide ((ji7) < (x0_1.length:Int))=true:=decide_eq_true c9;clear c9;obtain ⟨ji10,hji10⟩:∃ j_:Int,(wrap64 (a1 + x10_1))=j_:=⟨_,rfl⟩;(replace H:(if 0≤(ji10) then (if (ji10) < (x0_1.length:Int) then (api_File_92.l0 k1 ((x0_1.set ((ji10):Int).toNat (⟨(rd_T33 x0_1 (ji7)).f0,(rd_T33 x0_1 (ji7)).f1,(rd_T33 x0_1 (ji7)).f2⟩:S33)).set ((ji7):Int).toNat (⟨(rd_T33 x0_1 (ji10)).f0,(rd_T33 x0_1 (ji10)).f1,(rd_T33 x0_1 (ji10)).f2⟩:S33)) a1 a2 a3 (wrap64 (x10_1 + 1))) else (none)) else (none))=some r:=by first|(rw [hji10] at H;exact H)|(simp only [hji10] at H ⊢;exact H));have hji10w:(IntKind.i64.wrap (a1 + x10_1))=ji10:=(i64_w _).trans hji10;by_cases c11:0≤(ji10)
      ·rw [if_pos c11] at H;have c11b0:decide (0≤(ji10))=true:=decide_eq_true c11;clear c11;by_cases c12:(ji10) < (x0_1.length:Int)
       ·rw [if_pos c12] at H;have c12b0:decide ((ji10) < (x0_1.length:Int))=true:=decide_eq_true c12;clear c12;obtain ⟨y589,hy589⟩:∃ y_:List (S33),y_=(x0_1.set ((ji10):Int).toNat (⟨(rd_T33 x0_1 (ji7)).f0,(rd_T33 x0_1 (ji7)).f1,(rd_T33 x0_1 (ji7)).f2⟩:S33)):=⟨_,rfl⟩;(replace H:(api_File_92.l0 k1 (y589.set ((ji7):Int).toNat (⟨(rd_T33 x0_1 (ji10)).f0,(rd_T33 x0_1 (ji10)).f1,(rd_T33 x0_1 (ji10)).f2⟩:S33)) a1 a2 a3 (wrap64 (x10_1 + 1)))=some r:=by first|(rw [hy589];with_reducible exact H)|(have H2_:=(Option.bind_some _ _).symm.trans H;rw [hy589];with_reducible exact H2_)|(have H2_:=(Option.bind_some _ _).symm.trans H;with_reducible exact H2_)|with_reducible exact H|(rw [hy589];exact H)|exact H);have Ny589:=Aside0.mk hy589;clear hy589;obtain ⟨y590,hy590⟩:∃ y_:List (S33),y_=(y589.set ((ji7):Int).toNat (⟨(rd_T33 x0_1 (ji10)).f0,(rd_T33 x0_1 (ji10)).f1,(rd_T33 x0_1 (ji10)).f2⟩:S33)):=⟨_,rfl⟩;(replace H:(api_File_92.l0 k1 y590 a1 a2 a3 (wrap64 (x10_1 + 1)))=some r:=by first|(rw [hy590];with_reducible exact H)|(have H2_:=(Option.bind_some _ _).symm.trans H;rw [hy590];with_reducible exact H2_)|(have H2_:=(Option.bind_some _ _).symm.trans H;with_reducible exact H2_)|with_reducible exact H|(rw [hy590];exact H)|exact H);have Ny590:=Aside0.mk hy590;clear hy590;have H':=Aside0.mk H;clear H;(try go_wp2);have n0_:=Aside0.mk (Kd.R_drew HO_0.out);have n1_:=Aside0.mk (Kept.drew HK.out);have n2_:=Aside0.mk (bd1 HB.out);clear HO_0;clear HK;clear HB;have HO_0:=n0_;have HK:=n1_;have HB:=n2_;clear n0_ n1_ n2_;obtain ⟨Ao16,co16,eo16⟩:=Kd.R_slice HO_0.out;(first|subst eo16|(injection eo16 with f1_ f2_ f3_;have f4_:=f1_.symm;have f5_:=f3_.symm;clear f1_ f2_ f3_;subst f4_;subst f5_));have p587:0≤((ji7):Int):=of_decide_eq_true (by first|(with_reducible assumption)|assumption);have q587:(ji7) < (x0_1.length:Int):=of_decide_eq_true (by first|(with_reducible assumption)|assumption);obtain ⟨ad587,e587,hx587_0,hx587_1,hx587_2⟩:=at_T33 (Kd.R_reads' HO_0.out).2.2 (ji7) p587 q587;cases e587;replace p587:=eq_true p587;replace q587:=eq_true q587;have p588:0≤((ji10):Int):=of_decide_eq_true (by first|(with_reducible assumption)|assumption);have q588:(ji10) < (x0_1.length:Int):=of_decide_eq_true (by first|(with_reducible assumption)|assumption);obtain ⟨ad588,e588,hx588_0,hx588_1,hx588_2⟩:=at_T33 (Kd.R_reads' HO_0.out).2.2 (ji10) p588 q588;obtain rfl:ad587=ad588:=(by injection e588);replace p588:=eq_true p588;replace q588:=eq_true q588;have p13:0≤((ji10):Int):=of_decide_eq_true (by first|(with_reducible assumption)|assumption);have q13:((ji10):Int) < ((x0_1.length:Int):Int):=of_decide_eq_true (by first|(with_reducible assumption)|assumption);obtain ⟨go13,co13,eo13,gb13,gl13,cl13,HG13⟩:=Kd.R_form HO_0.out (by omega);(first|cases eo13|(injection eo13 with ea_ en_ ec_;(first|subst ea_|(injection ea_ with ea_;subst ea_));subst ec_;clear en_));have GB13:=Aside0.mk gb13;have GG13:=Aside0.mk HG13;clear gb13 gl13 HG13;have HMgo13:=Aside0.mk (show (P0_ go13∨w.heap.size≤go13) from (HO_0.out.1 _ rfl));(first|simp only [add_plain] at hx587_0|skip);(first|simp only [add_plain] at hx587_1|skip);(first|simp only [add_plain] at hx587_2|skip);(first|simp only [add_plain] at hx588_0|skip);(first|simp only [add_plain] at hx588_1|skip);(first|simp only [add_plain] at hx588_2|skip);obtain ⟨ce13,hcl13,hM13,hcc13,hfr13⟩:=Kd.R_elem HO_0.out z33 ((ji10):Int) p13 q13;obtain rfl:=k33_openM hM13;have hx13_0:World.cell? _ ⟨go13,((ji10):Int).toNat * 3,none⟩=some (.string ((rd_T33 x0_1 (ji10)).f0)):=hcc13 0 _ rfl;have hx13_1:World.cell? _ ⟨go13,((ji10):Int).toNat * 3 + 1,none⟩=some (.int .i64 ((rd_T33 x0_1 (ji10)).f1)):=hcc13 1 _ rfl;have hx13_2:World.cell? _ ⟨go13,((ji10):Int).toNat * 3 + 2,none⟩=some (.string ((rd_T33 x0_1 (ji10)).f2)):=hcc13 2 _ rfl;have hf13_0:World.frozen? _ ⟨go13,((ji10):Int).toNat * 3,none⟩=false:=hfr13 0;have hf13_1:World.frozen? _ ⟨go13,((ji10):Int).toNat * 3 + 1,none⟩=false:=hfr13 1;have hf13_2:World.frozen? _ ⟨go13,((ji10):Int).toNat * 3 + 2,none⟩=false:=hfr13 2;clear hcl13 hcc13 hfr13 hM13;replace p13:=eq_true p13;replace q13:=eq_true q13;obtain ⟨ce17,hcl17,hM17,hcc17,hfr17⟩:=Kd.R_elem HO_0.out z33 ((ji10):Int) (of_decide_eq_true (by first|(with_reducible assumption)|assumption)) (by have h_:((ji10):Int) < ((x0_1.length:Int):Int):=of_decide_eq_true (by first|(with_reducible assumption)|assumption);first|exact h_|(have e_:=(Kd.R_reads' HO_0.out).1;omega)|simpa using h_);obtain rfl:=k33_openM hM17;have HP17:=(Kd.R_seg HO_0.out ((ji10):Int) (of_decide_eq_true (by first|(with_reducible assumption)|assumption)) (by have h_:((ji10):Int) < ((x0_1.length:Int):Int):=of_decide_eq_true (by first|(with_reducible assumption)|assumption);first|exact h_|(have e_:=(Kd.R_reads' HO_0.out).1;omega)|simpa using h_) (seg:=[.string ((rd_T33 x0_1 (ji7)).f0),.int .i64 ((rd_T33 x0_1 (ji7)).f1),.string ((rd_T33 x0_1 (ji7)).f2)]) (j:=0) hcl17 hcc17 (show 3≤3 from by decide) (x':=(⟨(rd_T33 x0_1 (ji7)).f0,(rd_T33 x0_1 (ji7)).f1,(rd_T33 x0_1 (ji7)).f2⟩:S33)) (k33_mkM _ _ _ (⟨(rd_T33 x0_1 (ji7)).f0,(rd_T33 x0_1 (ji7)).f1,(rd_T33 x0_1 (ji7)).f2⟩:S33) ) (fun _ hk=>hk)).1;rw [← Ny589.out] at HP17;have HQ17:=Aside0.mk HP17;clear hcl17 hcc17 hfr17 hM17 HP17;have p14:0≤((ji7):Int):=of_decide_eq_true (by first|(with_reducible assumption)|assumption);have q14:((ji7):Int) < ((x0_1.length:Int):Int):=of_decide_eq_true (by first|(with_reducible assumption)|assumption);obtain ⟨ce14,hcl14,hM14,hcc14,hfr14⟩:=Kd.R_elem HQ17.out z33 ((ji7):Int) p14 q14;obtain rfl:=k33_openM hM14;have hx14_0:World.cell? _ ⟨go13,((ji7):Int).toNat * 3,none⟩=some (.string ((rd_T33 y589 (ji7)).f0)):=hcc14 0 _ rfl;have hx14_1:World.cell? _ ⟨go13,((ji7):Int).toNat * 3 + 1,none⟩=some (.int .i64 ((rd_T33 y589 (ji7)).f1)):=hcc14 1 _ rfl;have hx14_2:World.cell? _ ⟨go13,((ji7):Int).toNat * 3 + 2,none⟩=some (.string ((rd_T33 y589 (ji7)).f2)):=hcc14 2 _ rfl;have hf14_0:World.frozen? _ ⟨go13,((ji7):Int).toNat * 3,none⟩=false:=hfr14 0;have hf14_1:World.frozen? _ ⟨go13,((ji7):Int).toNat * 3 + 1,none⟩=false:=hfr14 1;have hf14_2:World.frozen? _ ⟨go13,((ji7):Int).toNat * 3 + 2,none⟩=false:=hfr14 2;clear hcl14 hcc14 hfr14 hM14;replace p14:=eq_true p14;replace q14:=eq_true q14;obtain ⟨ce18,hcl18,hM18,hcc18,hfr18⟩:=Kd.R_elem HQ17.out z33 ((ji7):Int) (of_decide_eq_true (by first|(with_reducible assumption)|assumption)) (by have h_:((ji7):Int) < ((x0_1.length:Int):Int):=of_decide_eq_true (by first|(with_reducible assumption)|assumption);first|exact h_|(have e_:=(Kd.R_reads' HO_0.out).1;omega)|simpa using h_);obtain rfl:=k33_openM hM18;have HP18:=(Kd.R_seg HQ17.out ((ji7):Int) (of_decide_eq_true (by first|(with_reducible assumption)|assumption)) (by have h_:((ji7):Int) < ((x0_1.length:Int):Int):=of_decide_eq_true (by first|(with_reducible assumption)|assumption);first|exact h_|(have e_:=(Kd.R_reads' HO_0.out).1;omega)|simpa using h_) (seg:=[.string ((rd_T33 x0_1 (ji10)).f0),.int .i64 ((rd_T33 x0_1 (ji10)).f1),.string ((rd_T33 x0_1 (ji10)).f2)]) (j:=0) hcl18 hcc18 (show 3≤3 from by decide) (x':=(⟨(rd_T33 x0_1 (ji10)).f0,(rd_T33 x0_1 (ji10)).f1,(rd_T33 x0_1 (ji10)).f2⟩:S33)) (k33_mkM _ _ _ (⟨(rd_T33 x0_1 (ji10)).f0,(rd_T33 x0_1 (ji10)).f1,(rd_T33 x0_1 (ji10)).f2⟩:S33) ) (fun _ hk=>hk)).1;rw [← Ny590.out] at HP18;have HQ18:=Aside0.mk HP18;clear hcl18 hcc18 hfr18 hM18 HP18;refine start_ (n:=24) (S:=fun w'=>w'.cell? ⟨go13,(((ji7)):Int).toNat * 3,none⟩=some (.string ((rd_T33 x0_1 (ji7)).f0))∧w'.cell? ⟨go13,(((ji7)):Int).toNat * 3 + 1,none⟩=some (.int .i64 ((rd_T33 x0_1 (ji7)).f1))∧w'.cell? ⟨go13,(((ji7)):Int).toNat * 3 + 2,none⟩=some (.string ((rd_T33 x0_1 (ji7)).f2))∧w'.cell? ⟨go13,(((ji10)):Int).toNat * 3,none⟩=some (.string ((rd_T33 x0_1 (ji10)).f0))∧w'.cell? ⟨go13,(((ji10)):Int).toNat * 3 + 1,none⟩=some (.int .i64 ((rd_T33 x0_1 (ji10)).f1))∧w'.cell? ⟨go13,(((ji10)):Int).toNat * 3 + 2,none⟩=some (.string ((rd_T33 x0_1 (ji10)).f2))) (ds:=[21,23]) #[false,false,false,false,false,false,false,false,false,false,false,false,false,false,false,false,false,false,false,false,false,false,false,false] (by kernel_rfl) rfl rfl ⟨hx587_0,hx587_1,hx587_2,hx588_0,hx588_1,hx588_2⟩ (fun hHeld=>?_);refine with_tabW api_File_92.tab3 api_File_92.bits3 (fun HT_ HW_=>?_);generalize wr.drew=w15 at HO_0 HK HB GG13 HQ17 HQ18 hf13_0 hf13_1 hf13_2 hf14_0 hf14_1 hf14_2 hx13_0 hx13_1 hx13_2 hx14_0 hx14_1 hx14_2 hx587_0 hx587_1 hx587_2 hx588_0 hx588_1 hx588_2 hHeld ⊢;(try (have hz14_0:=(World.cell?_setCell_other _ _ _ _ (by intro h_;simp only [Addr.mk.injEq,show k33.sz=3 from rfl] at h_;omega)).symm.trans ((World.cell?_setCell_other _ _ _ _ (by intro h_;simp only [Addr.mk.injEq,show k33.sz=3 from rfl] at h_;omega)).symm.trans hx14_0);simp only [show k33.sz=3 from rfl,Nat.add_zero] at hz14_0));(try (have hz14_1:=(World.cell?_setCell_other _ _ _ _ (by intro h_;simp only [Addr.mk.injEq,show k33.sz=3 from rfl] at h_;omega)).symm.trans hx14_1;simp only [show k33.sz=3 from rfl,Nat.add_zero] at hz14_1));(try (have hz14_2:=hx14_2;simp only [World.setCells,show k33.sz=3 from rfl,Nat.add_zero] at hz14_2));(try (have hg14_0:=(World.frozen?_setCell _ _ _ _).symm.trans ((World.frozen?_setCell _ _ _ _).symm.trans ((World.frozen?_setCell _ _ _ _).symm.trans hf14_0))));(try (have hg14_1:=(World.frozen?_setCell _ _ _ _).symm.trans ((World.frozen?_setCell _ _ _ _).symm.trans ((World.frozen?_setCell _ _ _ _).symm.trans hf14_1))));(try (have hg14_2:=(World.frozen?_setCell _ _ _ _).symm.trans ((World.frozen?_setCell _ _ _ _).symm.trans ((World.frozen?_setCell _ _ _ _).symm.trans hf14_2))));refine pure_ (i:=0) (N:=some 16) (v:=?_) (a':=?_) #[true,false,false,false,false,false,false,false,false,false,false,false,false,false,false,false,false,false,false,false,false,false,false,false] rfl rfl (any_of HT_.out (by kernel_rfl)) (fun _ _ _ h=>h) (Or.inl ⟨by rfl,?_⟩) ?_ ?_;rotate_left
        ·intro w';go_simp;with_reducible rfl
        rotate_left
        ·simp only [Act.put,List.setIfInBounds_toArray,List.set_cons_zero,List.set_cons_succ,i64_w,i32_w];rfl
        refine pure_ (i:=1) (N:=some 17) (v:=?_) (a':=?_) #[true,true,false,false,false,false,false,false,false,false,false,false,false,false,false,false,false,false,false,false,false,false,false,false] rfl rfl (any_of HT_.out (by kernel_rfl)) (fun _ _ _ h=>h) (Or.inl ⟨by rfl,?_⟩) ?_ ?_;rotate_left
        ·intro w';go_simp;with_reducible rfl
        rotate_left
        ·simp only [Act.put,List.setIfInBounds_toArray,List.set_cons_zero,List.set_cons_succ,i64_w,i32_w];rfl
        refine pure_ (i:=2) (N:=some 18) (v:=?_) (a':=?_) #[true,true,true,false,false,false,false,false,false,false,false,false,false,false,false,false,false,false,false,false,false,false,false,false] rfl rfl (any_of HT_.out (by kernel_rfl)) (fun _ _ _ h=>h) (Or.inl ⟨by rfl,?_⟩) ?_ ?_;rotate_left
        ·intro w';go_simp;with_reducible rfl
        rotate_left
        ·simp only [Act.put,List.setIfInBounds_toArray,List.set_cons_zero,List.set_cons_succ,i64_w,i32_w];rfl
        refine pure_ (i:=3) (N:=some 19) (v:=?_) (a':=?_) #[true,true,true,true,false,false,false,false,false,false,false,false,false,false,false,false,false,false,false,false,false,false,false,false] rfl rfl (any_of HT_.out (by kernel_rfl)) (fun _ _ _ h=>h) (Or.inl ⟨by rfl,?_⟩) ?_ ?_;rotate_left
        ·intro w';go_simp;with_reducible rfl
        rotate_left
        ·simp only [Act.put,List.setIfInBounds_toArray,List.set_cons_zero,List.set_cons_succ,i64_w,i32_w];rfl
        refine pure_ (i:=4) (N:=some 20) (v:=?_) (a':=?_) #[true,true,true,true,true,false,false,false,false,false,false,false,false,false,false,false,false,false,false,false,false,false,false,false] rfl rfl (any_of HT_.out (by kernel_rfl)) (fun _ _ _ h=>h) (Or.inl ⟨by rfl,?_⟩) ?_ ?_;rotate_left
        ·intro w';go_simp;with_reducible rfl
        rotate_left
        ·simp only [Act.put,List.setIfInBounds_toArray,List.set_cons_zero,List.set_cons_succ,i64_w,i32_w];rfl
        refine pure_ (i:=5) (N:=some 21) (v:=?_) (a':=?_) #[true,true,true,true,true,true,false,false,false,false,false,false,false,false,false,false,false,false,false,false,false,false,false,false] rfl rfl (any_of HT_.out (by kernel_rfl)) (fun _ _ _ h=>h) (Or.inl ⟨by rfl,?_⟩) ?_ ?_;rotate_left
        ·intro w';go_simp;with_reducible rfl
        rotate_left
        ·simp only [Act.put,List.setIfInBounds_toArray,List.set_cons_zero,List.set_cons_succ,i64_w,i32_w];rfl
        refine pure_ (i:=6) (N:=some 22) (v:=?_) (a':=?_) #[true,true,true,true,true,true,true,false,false,false,false,false,false,false,false,false,false,false,false,false,false,false,false,false] rfl rfl (any_of HT_.out (by kernel_rfl)) (fun _ _ _ h=>h) (Or.inl ⟨by rfl,?_⟩) ?_ ?_;rotate_left
        ·intro w';go_simp;with_reducible rfl
        rotate_left
        ·simp only [Act.put,List.setIfInBounds_toArray,List.set_cons_zero,List.set_cons_succ,i64_w,i32_w];rfl
        refine pure_ (i:=7) (N:=some 23) (v:=?_) (a':=?_) #[true,true,true,true,true,true,true,true,false,false,false,false,false,false,false,false,false,false,false,false,false,false,false,false] rfl rfl (any_of HT_.out (by kernel_rfl)) (fun _ _ _ h=>h) (Or.inl ⟨by rfl,?_⟩) ?_ ?_;rotate_left
        ·intro w';go_simp;with_reducible rfl
        rotate_left
        ·simp only [Act.put,List.setIfInBounds_toArray,List.set_cons_zero,List.set_cons_succ,i64_w,i32_w];rfl
        refine pure_ (i:=8) (N:=some 24) (v:=?_) (a':=?_) #[true,true,true,true,true,true,true,true,true,false,false,false,false,false,false,false,false,false,false,false,false,false,false,false] rfl rfl (any_of HT_.out (by kernel_rfl)) (fun _ _ _ h=>h) (Or.inl ⟨by rfl,?_⟩) ?_ ?_;rotate_left
        ·intro w';go_simp;with_reducible rfl
        rotate_left
        ·simp only [Act.put,List.setIfInBounds_toArray,List.set_cons_zero,List.set_cons_succ,i64_w,i32_w];rfl
        refine pure_ (i:=9) (N:=some 25) (v:=?_) (a':=?_) #[true,true,true,true,true,true,true,true,true,true,false,false,false,false,false,false,false,false,false,false,false,false,false,false] rfl rfl (any_of HT_.out (by kernel_rfl)) (fun _ _ _ h=>h) (Or.inl ⟨by rfl,?_⟩) ?_ ?_;rotate_left
        ·intro w';go_simp;with_reducible rfl
        rotate_left
        ·simp only [Act.put,List.setIfInBounds_toArray,List.set_cons_zero,List.set_cons_succ,i64_w,i32_w];rfl
        refine pure_ (i:=10) (N:=some 26) (v:=?_) (a':=?_) #[true,true,true,true,true,true,true,true,true,true,true,false,false,false,false,false,false,false,false,false,false,false,false,false] rfl rfl (any_of HT_.out (by kernel_rfl)) (fun _ _ _ h=>h) (Or.inl ⟨by rfl,?_⟩) ?_ ?_;rotate_left
        ·intro w';go_simp;with_reducible rfl
        rotate_left
        ·simp only [Act.put,List.setIfInBounds_toArray,List.set_cons_zero,List.set_cons_succ,i64_w,i32_w];rfl
        refine pure_ (i:=11) (N:=some 27) (v:=?_) (a':=?_) #[true,true,true,true,true,true,true,true,true,true,true,true,false,false,false,false,false,false,false,false,false,false,false,false] rfl rfl (any_of HT_.out (by kernel_rfl)) (fun _ _ _ h=>h) (Or.inl ⟨by rfl,?_⟩) ?_ ?_;rotate_left
        ·intro w';go_simp;with_reducible rfl
        rotate_left
        ·simp only [Act.put,List.setIfInBounds_toArray,List.set_cons_zero,List.set_cons_succ,i64_w,i32_w];rfl
        refine pure_ (i:=12) (N:=some 28) (v:=?_) (a':=?_) #[true,true,true,true,true,true,true,true,true,true,true,true,true,false,false,false,false,false,false,false,false,false,false,false] rfl rfl (any_of HT_.out (by kernel_rfl)) (fun _ _ _ h=>h) (Or.inl ⟨by rfl,?_⟩) ?_ ?_;rotate_left
        ·intro w';go_simp;with_reducible rfl
        rotate_left
        ·simp only [Act.put,List.setIfInBounds_toArray,List.set_cons_zero,List.set_cons_succ,i64_w,i32_w];rfl
        refine pure_ (i:=14) (N:=some 30) (v:=?_) (a':=?_) #[true,true,true,true,true,true,true,true,true,true,true,true,true,false,true,false,false,false,false,false,false,false,false,false] rfl rfl (any_of HT_.out (by kernel_rfl)) (fun _ _ _ h=>h) (Or.inl ⟨by rfl,?_⟩) ?_ ?_;rotate_left
        ·intro w';go_simp;with_reducible rfl
        rotate_left
        ·simp only [Act.put,List.setIfInBounds_toArray,List.set_cons_zero,List.set_cons_succ,i64_w,i32_w];rfl
        refine pure_ (i:=15) (N:=some 31) (v:=?_) (a':=?_) #[true,true,true,true,true,true,true,true,true,true,true,true,true,false,true,true,false,false,false,false,false,false,false,false] rfl rfl (any_of HT_.out (by kernel_rfl)) (fun _ _ _ h=>h) (Or.inl ⟨by rfl,?_⟩) ?_ ?_;rotate_left
        ·intro w';go_simp;with_reducible rfl
        rotate_left
        ·simp only [Act.put,List.setIfInBounds_toArray,List.set_cons_zero,List.set_cons_succ,i64_w,i32_w];rfl
        refine pure_ (i:=16) (N:=some 32) (v:=?_) (a':=?_) #[true,true,true,true,true,true,true,true,true,true,true,true,true,false,true,true,true,false,false,false,false,false,false,false] rfl rfl (any_of HT_.out (by kernel_rfl)) (fun _ _ _ h=>h) (Or.inl ⟨by rfl,?_⟩) ?_ ?_;rotate_left
        ·intro w';go_simp;with_reducible rfl
        rotate_left
        ·simp only [Act.put,List.setIfInBounds_toArray,List.set_cons_zero,List.set_cons_succ,i64_w,i32_w];rfl
        refine pure_ (i:=17) (N:=some 33) (v:=?_) (a':=?_) #[true,true,true,true,true,true,true,true,true,true,true,true,true,false,true,true,true,true,false,false,false,false,false,false] rfl rfl (any_of HT_.out (by kernel_rfl)) (fun _ _ _ h=>h) (Or.inl ⟨by rfl,?_⟩) ?_ ?_;rotate_left
        ·intro w';go_simp;with_reducible rfl
        rotate_left
        ·simp only [Act.put,List.setIfInBounds_toArray,List.set_cons_zero,List.set_cons_succ,i64_w,i32_w];rfl
        refine pure_ (i:=18) (N:=some 34) (v:=?_) (a':=?_) #[true,true,true,true,true,true,true,true,true,true,true,true,true,false,true,true,true,true,true,false,false,false,false,false] rfl rfl (any_of HT_.out (by kernel_rfl)) (fun _ _ _ h=>h) (Or.inl ⟨by rfl,?_⟩) ?_ ?_;rotate_left
        ·intro w';go_simp;with_reducible rfl
        rotate_left
        ·simp only [Act.put,List.setIfInBounds_toArray,List.set_cons_zero,List.set_cons_succ,i64_w,i32_w];rfl
        refine take_ (i:=13) (N:=some 29) (v:=?_) (a':=?_) #[true,true,true,true,true,true,true,true,true,true,true,true,true,true,true,true,true,true,true,false,false,false,false,false] rfl rfl (take_ofW HT_.out HW_.out (by kernel_rfl)) (fun _ _ _ h=>h) (Or.inl ⟨by rfl,?_⟩) hHeld ?_ ?_;rotate_left
        ·rintro w' ⟨s0,s1,s2,s3,s4,s5⟩;go_simp;with_reducible rfl
        rotate_left
        ·simp only [Act.put,List.setIfInBounds_toArray,List.set_cons_zero,List.set_cons_succ,i64_w,i32_w];rfl
        refine take_ (i:=19) (N:=some 35) (v:=?_) (a':=?_) #[true,true,true,true,true,true,true,true,true,true,true,true,true,true,true,true,true,true,true,true,false,false,false,false] rfl rfl (take_ofW HT_.out HW_.out (by kernel_rfl)) (fun _ _ _ h=>h) (Or.inl ⟨by rfl,?_⟩) hHeld ?_ ?_;rotate_left
        ·rintro w' ⟨s0,s1,s2,s3,s4,s5⟩;go_simp;with_reducible rfl
        rotate_left
        ·simp only [Act.put,List.setIfInBounds_toArray,List.set_cons_zero,List.set_cons_succ,i64_w,i32_w];rfl
        refine pure_ (i:=20) (N:=some 36) (v:=?_) (a':=?_) #[true,true,true,true,true,true,true,true,true,true,true,true,true,true,true,true,true,true,true,true,true,false,false,false] rfl rfl (any_of HT_.out (by kernel_rfl)) (fun _ _ _ h=>h) (Or.inl ⟨by rfl,?_⟩) ?_ ?_;rotate_left
        ·intro w';go_simp;with_reducible rfl
        rotate_left
        ·simp only [Act.put,List.setIfInBounds_toArray,List.set_cons_zero,List.set_cons_succ,i64_w,i32_w];rfl
        refine last_ (i:=21) (N:=none) #[true,true,true,true,true,true,true,true,true,true,true,true,true,true,true,true,true,true,true,true,true,true,false,false] rfl rfl (one_of HT_.out (by kernel_rfl)) (by decide) (fun K hK=>?_);refine skip_ (w1:=?_) (by rfl) rfl ?_ ?_;rotate_left
        ·go_simp;rfl
        refine hK.out _ _ ?_;clear hK K;refine pure_ (i:=22) (N:=some 37) (v:=?_) (a':=?_) #[true,true,true,true,true,true,true,true,true,true,true,true,true,true,true,true,true,true,true,true,true,true,true,false] rfl rfl (any_of HT_.out (by kernel_rfl)) (fun _ _ _ h=>h) (Or.inl ⟨by rfl,?_⟩) ?_ ?_;rotate_left
        ·intro w';go_simp;with_reducible rfl
        rotate_left
        ·simp only [Act.put,List.setIfInBounds_toArray,List.set_cons_zero,List.set_cons_succ,i64_w,i32_w];rfl
        refine last_ (i:=23) (N:=none) #[true,true,true,true,true,true,true,true,true,true,true,true,true,true,true,true,true,true,true,true,true,true,true,true] rfl rfl (one_of HT_.out (by kernel_rfl)) (by decide) (fun K hK=>?_);refine skip_ (w1:=?_) (by rfl) rfl ?_ ?_;rotate_left
        ·go_simp;rfl
        refine hK.out _ _ ?_;clear hK K;refine done_ (done_of HT_.out (by kernel_rfl)) ?_;(try go_wp2);go_roundg k1
        case measure=>have:=HK1.out;omega
        case rel=>exact ⟨(y590),(wrap64 (x10_1 + 1)),(by first|rfl|(simp;done)|(simp [*];done)),H',⟨by have:=HK1.out;omega⟩,⟨by (with_reducible repeat (first|apply Kd.R_alloc|apply Kd.R_drewN|apply Kd.R_drew));exact HQ18.out⟩,⟨by repeat (first|(with_reducible first|exact HK.out|apply Kept.alloc|apply Kept.drewN|apply Kept.drew|refine Kept.setCell ?_ HMgo13.out _|refine Kept.setCell ?_ HMgo13.out _|refine Kept.setCell ?_ HMgo13.out _|refine Kept.setCell ?_ HMgo13.out _|refine Kept.setCell ?_ HMgo13.out _|refine Kept.setCell ?_ HMgo13.out _)|exact HK.out)⟩,⟨by repeat (first|(with_reducible first|exact HB.out|apply bal|apply bdN|apply bd1|refine below_set ?_ GB13.out|refine below_set ?_ GB13.out|refine below_set ?_ GB13.out|refine below_set ?_ GB13.out|refine below_set ?_ GB13.out|refine below_set ?_ GB13.out)|exact HB.out)⟩⟩
       ·rw [if_neg c12] at H;exact absurd H (by simp)
      ·rw [if_neg c11] at H;exact absurd H (by simp)
     ·rw [if_neg c9] at H;exact absurd H (by simp)
    ·rw [if_neg c8] at H;exact absurd H (by simp)
   ·rw [if_neg c6] at H;have c6b0:decide (x10_1 < a3)=false:=decide_eq_false c6;clear c6;obtain rfl:=Option.some.inj H;go_wp2;(first|go_end0|((try simp only [Exit.inBlock,Exit.then]);refine bodyPost_ret (results_none rfl _ _ _) rfl ?_));exact ⟨by first|rfl|(simp [errW_none,errW_some] <;> rfl)|(simp [*,errW_none,errW_some] <;> rfl),by (with_reducible repeat (first|apply Kd.R_alloc|apply Kd.R_drewN|apply Kd.R_drew));exact HO_0.out,by repeat (first|(with_reducible first|exact HB.out|apply bal|apply bdN|apply bd1)|exact HB.out),by repeat (first|(with_reducible first|exact HK.out|apply Kept.alloc|apply Kept.drewN|apply Kept.drew)|exact HK.out)⟩
end Go.Proofs.YtmeofdpmddjbgaaDoor.G
end
section
namespace Go.Proofs.YtmeofdpmddjbgaaDoor.G
open Go.RowKit Go.Proofs.YtmeofdpmddjbgaaDoorW.PrintWords Go.Proofs.YtmeofdpmddjbgaaDoorW.PrintLast Go.Proofs.YtmeofdpmddjbgaaDoorW.PrintMore
set_option linter.unusedVariables false
set_option linter.unusedSimpArgs false
theorem rdm_ (X Y:List S33) (p:S33) (i:Int) (h:i=(X.length:Int)):rd_T33 (X ++ p :: Y) i=p:=by
 subst h
 rw [rdF_nat _ _ (by rw [List.length_append,List.length_cons];omega)]
 simp
theorem setm_ (X Y:List S33) (p v:S33) (i:Int) (h:i=(X.length:Int)):(X ++ p :: Y).set i.toNat v=X ++ v :: Y:=by
 subst h
 rw [Int.toNat_natCast,List.set_append_right _ _ (Nat.le_refl _),Nat.sub_self,List.set_cons_zero]
theorem w64n_ (i:Int) (h : -4294967296≤i) (h2:i≤4294967296 * 8):wrap64 i=i:=w64_ (by omega) (by omega)

theorem cmp_ev (x y:S33) (hx:x.f0.size≤9223372036854775807) (hy:y.f0.size≤9223372036854775807):∃ t:Int,Ev (fun k=>tree_Sort_1.f k x.f0 x.f1 x.f2 y.f0 y.f1 y.f2) t∧(t < 0 ↔ ahead keyF x y):=by
 refine ⟨ordV x.f0.data.toList y.f0.data.toList,?_,(ordV_cmp _ _).1⟩
 unfold tree_Sort_1.f
 exact Ev.bind (order_evW _ _ hx hy) (Ev.now _)

def okS (l:List S33):Prop:=∀ x ∈ l,x.f0.size≤9223372036854775807
theorem ins_l1 (P:List S33) (b i:Int) (r:List S33) (x:S33) (hx:x.f0.size≤9223372036854775807):∀ (n:Nat) (S T:List S33),S.length=n→okS S→SortedW keyF S→P.length + n + T.length≤4294967296 →
  Ev (fun k=>api_File_85.l0 k (P ++ insK keyF x S ++ T) (P.length:Int) b (wrap64 (i + 1))) r →
  Ev (fun k=>api_File_85.l1 k (P ++ S ++ x :: T) (P.length:Int) b i ((P.length + n:Nat):Int)) r:=by
 intro n
 induction n with
 | zero =>
  intro S T hS hok hs hl h
  have e:S=[]:=List.eq_nil_of_length_eq_zero hS
  subst e
  apply Ev.step
  ·intro k;rw [api_File_85.l1]
  have c1:¬ (((P.length + 0:Nat):Int) > (P.length:Int)):=by omega
  simp only [c1,↓reduceIte]
  rw [show insK keyF x []=[x] from rfl,List.append_assoc,List.singleton_append] at h
  rw [List.append_nil]
  exact h
 | succ n ih =>
  intro S T hS hok hs hl h
  obtain ⟨S',y,rfl⟩:∃ S' y,S=S' ++ [y]:=⟨S.dropLast,S.getLast (by intro e;subst e;simp at hS),(List.dropLast_concat_getLast _).symm⟩
  rw [List.length_append,List.length_singleton] at hS
  have hn:S'.length=n:=by omega
  have hy:y.f0.size≤9223372036854775807:=hok y (List.mem_append_right _ List.mem_cons_self)
  obtain ⟨t,t1,t2⟩:=cmp_ev x y hx hy
  have e1:P ++ (S' ++ [y]) ++ x :: T=(P ++ S' ++ [y]) ++ x :: T:=by simp
  have e2:P ++ (S' ++ [y]) ++ x :: T=(P ++ S') ++ y :: (x :: T):=by simp
  have r1:rd_T33 (P ++ (S' ++ [y]) ++ x :: T) ((P.length + (n + 1):Nat):Int)=x:=by rw [e1];exact rdm_ _ _ _ _ (by simp only [List.length_append,List.length_cons,List.length_nil] <;> omega)
  have r2:rd_T33 (P ++ (S' ++ [y]) ++ x :: T) ((P.length + n:Nat):Int)=y:=by rw [e2];exact rdm_ _ _ _ _ (by simp only [List.length_append];omega)
  have hlen:(P ++ (S' ++ [y]) ++ x :: T).length=P.length + n + 1 + (T.length + 1):=by simp only [List.length_append,List.length_cons,List.length_nil] <;> omega
  have s1:∀ u v:S33,((P ++ (S' ++ [y]) ++ x :: T).set ((P.length + (n + 1):Nat):Int).toNat u).set ((P.length + n:Nat):Int).toNat v=(P ++ S') ++ v :: (u :: T):=by
   intro u v
   rw [e1,setm_ (P ++ S' ++ [y]) T x u _ (by simp only [List.length_append,List.length_cons,List.length_nil] <;> omega),show (P ++ S' ++ [y]) ++ u :: T=(P ++ S') ++ y :: (u :: T) by simp,setm_ (P ++ S') (u :: T) y v _ (by simp only [List.length_append];omega)]
  apply Ev.step
  ·intro k;rw [api_File_85.l1]
  have c1:(((P.length + (n + 1):Nat):Int) > (P.length:Int)):=by omega
  have c2:(0:Int)≤((P.length + (n + 1):Nat):Int):=by omega
  have c3:((P.length + (n + 1):Nat):Int) < ((P ++ (S' ++ [y]) ++ x :: T).length:Int):=by rw [hlen];omega
  have c4:(0:Int)≤((P.length + n:Nat):Int):=by omega
  have c5:((P.length + n:Nat):Int) < ((P ++ (S' ++ [y]) ++ x :: T).length:Int):=by rw [hlen];omega
  have hlen2:P.length + n + (y :: T).length≤4294967296:=by rw [List.length_cons];omega
  have hw:wrap64 (((P.length + (n + 1):Nat):Int) - 1)=((P.length + n:Nat):Int):=by rw [w64n_ _ (by omega) (by omega)];omega
  simp only [hw,c1,c2,c3,c4,c5,r1,r2,s1,↓reduceIte]
  refine Ev.bind t1 ?_
  by_cases q:t < 0
  ·simp only [q,↓reduceIte]
   have hlt:ltP (keyF x) (keyF y):=t2.1 q
   rw [insK_snoc_lt keyF x y S' hlt] at h
   refine ih S' (y :: T) hn (fun z hz=>hok z (List.mem_append_left _ hz)) (List.pairwise_append.1 hs).1 hlen2 ?_
   rw [show P ++ (insK keyF x S' ++ [y]) ++ T=P ++ insK keyF x S' ++ y :: T by simp] at h
   exact h
  ·simp only [q,↓reduceIte]
   have hge:¬ ltP (keyF x) (keyF y):=fun e=>q (t2.2 e)
   rw [insK_snoc_ge keyF x y S' hs hge,show P ++ (S' ++ [y,x]) ++ T=P ++ (S' ++ [y]) ++ x :: T by simp] at h
   exact h
theorem ins_l0 (P Q:List S33) (b:Int):∀ (R S:List S33),okS S→okS R→SortedW keyF S→b=((P.length + S.length + R.length:Nat):Int)→P.length + S.length + R.length + Q.length≤4294967295 →
  Ev (fun k=>api_File_85.l0 k (P ++ S ++ (R ++ Q)) (P.length:Int) b ((P.length + S.length:Nat):Int)) (P ++ R.foldl (fun a x=>insK keyF x a) S ++ Q)
 | [],S,hS,hR,hs,hb,hl=>by
  apply Ev.step
  ·intro k;rw [api_File_85.l0]
  rw [List.length_nil] at hb
  have c1:¬ (((P.length + S.length:Nat):Int) < b):=by omega
  simp only [c1,↓reduceIte]
  exact Ev.now _
 | x :: R,S,hS,hR,hs,hb,hl=>by
  rw [List.length_cons] at hb hl
  have hx:=hR x List.mem_cons_self
  have ih:=ins_l0 P Q b R (insK keyF x S) (fun z hz=>by
   rcases (insK_mem keyF x z S).1 hz with e|e
   ·rw [e];exact hx
   ·exact hS z e) (fun z hz=>hR z (List.mem_cons_of_mem _ hz)) (insK_sortedW keyF x S hs) (by rw [insK_length];omega) (by rw [insK_length];omega)
  apply Ev.step
  ·intro k;rw [api_File_85.l0]
  have c1:(((P.length + S.length:Nat):Int) < b):=by omega
  simp only [c1,↓reduceIte]
  have hw:wrap64 (((P.length + S.length:Nat):Int) + 1)=((P.length + (insK keyF x S).length:Nat):Int):=by rw [w64n_ _ (by omega) (by omega),insK_length];omega
  refine ins_l1 P b _ _ x hx S.length S (R ++ Q) rfl hS hs (by rw [List.length_append];omega) ?_
  rw [hw]
  exact ih
theorem ins_ev (P A Q:List S33) (hA:okS A) (hl:P.length + A.length + Q.length≤4294967295) :
  Ev (fun k=>api_File_85.f k (P ++ A ++ Q) (P.length:Int) ((P.length + A.length:Nat):Int)) (P ++ sortK keyF A ++ Q):=by
 unfold api_File_85.f
 cases A with
 | nil =>
  have hw:wrap64 ((P.length:Int) + 1)=((P.length + 1:Nat):Int):=by rw [w64n_ _ (by omega) (by omega)];omega
  rw [hw]
  apply Ev.step
  ·intro k;rw [api_File_85.l0]
  have c1:¬ (((P.length + 1:Nat):Int) < ((P.length + ([]:List S33).length:Nat):Int)):=by rw [List.length_nil];omega
  simp only [c1,↓reduceIte]
  exact Ev.now _
 | cons x R =>
  rw [List.length_cons] at hl
  have hw:wrap64 ((P.length:Int) + 1)=((P.length + [x].length:Nat):Int):=by rw [w64n_ _ (by omega) (by omega),List.length_singleton];omega
  rw [hw]
  have:=ins_l0 P Q ((P.length + (x :: R).length:Nat):Int) R [x] (fun z hz=>by rw [List.mem_singleton.1 hz];exact hA x List.mem_cons_self) (fun z hz=>hA z (List.mem_cons_of_mem _ hz)) (by simp) (by rw [List.length_cons,List.length_singleton];omega) (by rw [List.length_singleton];omega)
  rw [show P ++ [x] ++ (R ++ Q)=P ++ x :: R ++ Q by simp] at this
  exact this
theorem swp_l0 (M Q:List S33) (a b n:Int):∀ (U V X U1:List S33) (i:Nat),U.length=V.length→(X.length:Int)=a + i→((X.length + U.length + M.length + U1.length:Nat):Int)=b + i→n=((i + U.length:Nat):Int) →
  X.length + U.length + M.length + U1.length + V.length + Q.length≤4294967295→0≤a→0≤b →
  Ev (fun k=>api_File_92.l0 k (X ++ U ++ M ++ U1 ++ V ++ Q) a b n (i:Int)) (X ++ V ++ M ++ (U1 ++ U) ++ Q)
 | [],V,X,U1,i,hUV,hX,hb,hn,hl,ha,hb0=>by
  have e:V=[]:=List.eq_nil_of_length_eq_zero hUV.symm
  subst e
  apply Ev.step
  ·intro k;rw [api_File_92.l0]
  rw [List.length_nil] at hn
  have c1:¬ ((i:Int) < n):=by omega
  simp only [c1,↓reduceIte]
  rw [show X ++ [] ++ M ++ U1 ++ [] ++ Q=X ++ [] ++ M ++ (U1 ++ []) ++ Q by simp]
  exact Ev.now _
 | u :: U,[],X,U1,i,hUV,hX,hb,hn,hl,ha,hb0=>by simp at hUV
 | u :: U,v :: V,X,U1,i,hUV,hX,hb,hn,hl,ha,hb0=>by
  simp only [List.length_cons] at hUV hb hn hl
  have ih:=swp_l0 M Q a b n U V (X ++ [v]) (U1 ++ [u]) (i + 1) (by omega) (by rw [List.length_append,List.length_singleton];omega) (by rw [List.length_append,List.length_append,List.length_singleton,List.length_singleton];omega) (by omega) (by simp only [List.length_append,List.length_cons,List.length_nil] <;> omega) ha hb0
  have e1:X ++ (u :: U) ++ M ++ U1 ++ (v :: V) ++ Q=X ++ u :: (U ++ M ++ U1 ++ (v :: V) ++ Q):=by simp
  have e2:X ++ (u :: U) ++ M ++ U1 ++ (v :: V) ++ Q=(X ++ (u :: U) ++ M ++ U1) ++ v :: (V ++ Q):=by simp
  have hlen:(X ++ (u :: U) ++ M ++ U1 ++ (v :: V) ++ Q).length=X.length + (U.length + 1) + M.length + U1.length + (V.length + 1) + Q.length:=by simp only [List.length_append,List.length_cons]
  have r1:rd_T33 (X ++ (u :: U) ++ M ++ U1 ++ (v :: V) ++ Q) (a + (i:Int))=u:=by rw [e1];exact rdm_ _ _ _ _ hX.symm
  have r2:rd_T33 (X ++ (u :: U) ++ M ++ U1 ++ (v :: V) ++ Q) (b + (i:Int))=v:=by rw [e2];exact rdm_ _ _ _ _ (by rw [← hb];simp only [List.length_append,List.length_cons])
  have s1:∀ p q:S33,((X ++ (u :: U) ++ M ++ U1 ++ (v :: V) ++ Q).set (a + (i:Int)).toNat p).set (b + (i:Int)).toNat q=(X ++ [p]) ++ U ++ M ++ (U1 ++ [q]) ++ V ++ Q:=by
   intro p q
   rw [e1,setm_ X _ u p _ hX.symm,show X ++ p :: (U ++ M ++ U1 ++ (v :: V) ++ Q)=(X ++ (p :: U) ++ M ++ U1) ++ v :: (V ++ Q) by simp,setm_ (X ++ (p :: U) ++ M ++ U1) (V ++ Q) v q _ (by rw [← hb];simp only [List.length_append,List.length_cons])]
   simp
  apply Ev.step
  ·intro k;rw [api_File_92.l0]
  have c1:((i:Int) < n):=by omega
  have c2:(0:Int)≤b + (i:Int):=by omega
  have c3:b + (i:Int) < ((X ++ (u :: U) ++ M ++ U1 ++ (v :: V) ++ Q).length:Int):=by rw [hlen];omega
  have c4:(0:Int)≤a + (i:Int):=by omega
  have c5:a + (i:Int) < ((X ++ (u :: U) ++ M ++ U1 ++ (v :: V) ++ Q).length:Int):=by rw [hlen];omega
  have hwb:wrap64 (b + (i:Int))=b + (i:Int):=w64n_ _ (by omega) (by omega)
  have hwa:wrap64 (a + (i:Int))=a + (i:Int):=w64n_ _ (by omega) (by omega)
  have hwi:wrap64 ((i:Int) + 1)=((i + 1:Nat):Int):=by rw [w64n_ _ (by omega) (by omega)];omega
  simp only [hwa,hwb,hwi,c1,c2,c3,c4,c5,r1,r2,s1,↓reduceIte]
  rw [show X ++ (v :: V) ++ M ++ (U1 ++ (u :: U)) ++ Q=X ++ [v] ++ V ++ M ++ (U1 ++ [u] ++ U) ++ Q by simp]
  exact ih
end Go.Proofs.YtmeofdpmddjbgaaDoor.G
end
section
namespace Go.Proofs.YtmeofdpmddjbgaaDoor.G
open Go.RowKit Go.Proofs.YtmeofdpmddjbgaaDoorW.PrintWords Go.Proofs.YtmeofdpmddjbgaaDoorW.PrintLast Go.Proofs.YtmeofdpmddjbgaaDoorW.PrintMore
attribute [local go_sem] max2_int min2_int max_two min_two max_three min_three max_four min_four   
set_option linter.unusedVariables false
set_option linter.unusedSimpArgs false
def api_File_88.l0:Nat→List (S33)→Int→Int→Int→Option ((List (S33)))
 | 0,_,_,_,_=>none
 | k + 1,x0,x2,x10,x11=>if x10=x11 then ((api_File_92.f k x0 (wrap64 (x2 - x10)) x2 x10).bind fun t591=>(some t591)) else (if x10 > x11 then ((api_File_92.f k x0 (wrap64 (x2 - x10)) x2 x11).bind fun t592=>(api_File_88.l0 k t592 x2 (wrap64 (x10 - x11)) x11)) else ((api_File_92.f k x0 (wrap64 (x2 - x10)) (wrap64 ((wrap64 (x2 + x11)) - x10)) x10).bind fun t593=>(api_File_88.l0 k t593 x2 x10 (wrap64 (x11 - x10)))))
def api_File_88.f (k:Nat) (l0:List (S33)) (a1:Int) (a2:Int) (a3:Int)  : Option ((List (S33))):=api_File_88.l0 k l0 a2 (wrap64 (a2 - a1)) (wrap64 (a3 - a2))
set_option maxHeartbeats 8000000 in
set_option maxRecDepth 100000 in
theorem api_File_88.calls (k:Nat) (P0_:Nat→Prop) (u9000_:Value) (l0:List (S33)) (a1:Int) (a2:Int) (a3:Int)  (r:List (S33)) (w0 w:World) (hB:Below w0.heap.size w0 w) (ho0:Kd.R k33 33 w w0.heap.size P0_ u9000_ l0) (h:api_File_88.f k l0 a1 a2 a3=some r) :
  Calls Tryd.prog 88 #[u9000_,.int .i64 a1,.int .i64 a2,.int .i64 a3,.func (.func 70) #[] #[]] w fun e w'=>e=.returned (.tuple #[])∧Kd.R k33 33 w' w0.heap.size (fun k_=>(P0_ k_∨w.heap.size≤k_)) u9000_ r∧Below w0.heap.size w0 w'∧Kept w w' (fun k_=>P0_ k_):=by
 have HO0:=Aside0.mk (show Kd.R k33 33 w w0.heap.size (fun k_=>(P0_ k_∨w.heap.size≤k_)) u9000_ l0 from Kd.R_mono ho0 (fun k_ hk=>(.inl hk)));have HK:=Aside0.mk (Kept.refl w (fun k_=>P0_ k_));have HW0:=Aside0.mk hB.size;have HB:=Aside0.mk hB;clear hB;have H:(api_File_88.l0 k l0 a2 (wrap64 (a2 - a1)) (wrap64 (a3 - a2)))=some r:=h;clear h;have H':=Aside0.mk H;clear H;go_enter Tryd.func88,Tryd.ntmps88;go_wp2;go_loopg [10,11] k (fun kq v10 v11 w'=>∃ (x0_1:List (S33)) (x10_1:Int) (x11_1:Int),v10=.int .i64 x10_1∧v11=.int .i64 x11_1∧Aside0 (api_File_88.l0 kq x0_1 a2 x10_1 x11_1=some r)∧Aside0 (kq≤k)∧Aside0 (Kd.R k33 33 w' w0.heap.size (fun k_=>(P0_ k_∨w.heap.size≤k_)) u9000_ x0_1)∧Aside0 (Kept w w' (fun k_=>P0_ k_))∧Aside0 (Below w0.heap.size w0 w'))
 case atStart=>exact ⟨(l0),(wrap64 (a2 - a1)),(wrap64 (a3 - a2)),(by first|rfl|(simp;done)|(simp [*];done)),(by first|rfl|(simp;done)|(simp [*];done)),H',⟨Nat.le_refl _⟩,⟨by (with_reducible repeat (first|apply Kd.R_alloc|apply Kd.R_drewN|apply Kd.R_drew));exact HO0.out⟩,⟨by repeat (first|(with_reducible first|exact HK.out|apply Kept.alloc|apply Kept.drewN|apply Kept.drew)|exact HK.out)⟩,⟨by repeat (first|(with_reducible first|exact HB.out|apply bal|apply bdN|apply bd1)|exact HB.out)⟩⟩
 case round =>
  clear H';(try clear p2);obtain ⟨x0_1,x10_1,x11_1,rfl,rfl,HA,HK1,HO_0,HK,HB⟩:=hrel
  cases gk with
  | zero=>exact absurd HA.out (by simp [api_File_88.l0])
  | succ k1 =>
   have H:=HA.out;clear HA;simp only [api_File_88.l0] at H;by_cases c6:x10_1=x11_1
   ·rw [if_pos c6] at H;have c6b0:(x10_1 == x11_1)=true:=beq_iff_eq.mpr c6;have c6b1:(x10_1 != x11_1)=false:=bne_eq_false_iff_eq.mpr c6;clear c6;replace H:=Option.bind_eq_some_iff.mp H;obtain ⟨t591,A70,H⟩:=H;replace H:(some t591)=some r:=H;have A7:=Aside0.mk A70;clear A70;obtain rfl:=Option.some.inj H;obtain ⟨Ao8,co8,eo8⟩:=Kd.R_slice HO_0.out;subst eo8;go_wp2_with (first|((with_reducible refine gate_callee (f:=92) rfl ?_);refine goesL_ (some 57) rfl rfl Tryd.func92 (by kernel_rfl) rfl #[.slice Ao8 x0_1.length co8,.int .i64 (wrap64 (a2 - x10_1)),.int .i64 a2,.int .i64 x10_1,.func (.func 70) #[] #[]] rfl (by (try simp only [List.map_toArray,List.map_cons,List.map_nil]);first|done|rfl|(simp only [List.length_drop,List.length_take];rfl)) ?_;(with_reducible refine (api_File_92.calls k1 (fun k_=>some k_=(.slice Ao8 x0_1.length co8:Value).ownBlock) (.slice Ao8 x0_1.length co8) x0_1 (wrap64 (a2 - x10_1)) a2 x10_1 t591 w0 _ ?side1 ?side2 A7.out).mono ?_);(case side1=>repeat (first|(with_reducible first|exact HB.out|apply bal|apply bdN|apply bd1)|exact HB.out));(case side2=>exact Kd.R_tight rfl HO_0.out);rintro e w9 ⟨rfl,hy0,hb,hkp⟩;refine ⟨_,rfl,?_⟩;have n0_:=Aside0.mk (Kd.R_reok rfl hy0 (fun k_ e_=>HO_0.out.1 k_ e_));have n1_:=Aside0.mk (Kept.then_ (S:=(fun k_=>P0_ k_)) (by repeat (first|(with_reducible first|exact HK.out|apply Kept.alloc|apply Kept.drewN|apply Kept.drew)|exact HK.out)) hkp (fun k_ hs_=>(fun e_=>(HO_0.out.1 k_ e_.symm)) hs_));have n2_:=Aside0.mk (hb);clear HO_0;clear HK;clear HB;have HO_0:=n0_;have HK:=n1_;have HB:=n2_;clear n0_ n1_ n2_;(try clear hb);(try clear hkp);(try clear hy0)));(first|go_end0|((try simp only [Exit.inBlock,Exit.then]);refine bodyPost_ret (results_none rfl _ _ _) rfl ?_));exact ⟨by first|rfl|(simp [errW_none,errW_some] <;> rfl)|(simp [*,errW_none,errW_some] <;> rfl),by (with_reducible repeat (first|apply Kd.R_alloc|apply Kd.R_drewN|apply Kd.R_drew));exact HO_0.out,by repeat (first|(with_reducible first|exact HB.out|apply bal|apply bdN|apply bd1)|exact HB.out),by repeat (first|(with_reducible first|exact HK.out|apply Kept.alloc|apply Kept.drewN|apply Kept.drew)|exact HK.out)⟩
   ·rw [if_neg c6] at H;have c6b0:(x10_1 == x11_1)=false:=beq_eq_false_iff_ne.mpr c6;have c6b1:(x10_1 != x11_1)=true:=bne_iff_ne.mpr c6;by_cases c10:x10_1 > x11_1
    ·rw [if_pos c10] at H;have c10b0:decide (x11_1 < x10_1)=true:=decide_eq_true c10;clear c10;replace H:=Option.bind_eq_some_iff.mp H;obtain ⟨t592,A110,H⟩:=H;replace H:(api_File_88.l0 k1 t592 a2 (wrap64 (x10_1 - x11_1)) x11_1)=some r:=H;have A11:=Aside0.mk A110;clear A110;have H':=Aside0.mk H;clear H;obtain ⟨Ao12,co12,eo12⟩:=Kd.R_slice HO_0.out;subst eo12;go_wp2_with (first|((with_reducible refine gate_callee (f:=92) rfl ?_);refine goesL_ (some 31) rfl rfl Tryd.func92 (by kernel_rfl) rfl #[.slice Ao12 x0_1.length co12,.int .i64 (wrap64 (a2 - x10_1)),.int .i64 a2,.int .i64 x11_1,.func (.func 70) #[] #[]] rfl (by (try simp only [List.map_toArray,List.map_cons,List.map_nil]);first|done|rfl|(simp only [List.length_drop,List.length_take];rfl)) ?_;(with_reducible refine (api_File_92.calls k1 (fun k_=>some k_=(.slice Ao12 x0_1.length co12:Value).ownBlock) (.slice Ao12 x0_1.length co12) x0_1 (wrap64 (a2 - x10_1)) a2 x11_1 t592 w0 _ ?side1 ?side2 A11.out).mono ?_);(case side1=>repeat (first|(with_reducible first|exact HB.out|apply bal|apply bdN|apply bd1)|exact HB.out));(case side2=>exact Kd.R_tight rfl HO_0.out);rintro e w13 ⟨rfl,hy0,hb,hkp⟩;refine ⟨_,rfl,?_⟩;have n0_:=Aside0.mk (Kd.R_reok rfl hy0 (fun k_ e_=>HO_0.out.1 k_ e_));have n1_:=Aside0.mk (Kept.then_ (S:=(fun k_=>P0_ k_)) (by repeat (first|(with_reducible first|exact HK.out|apply Kept.alloc|apply Kept.drewN|apply Kept.drew)|exact HK.out)) hkp (fun k_ hs_=>(fun e_=>(HO_0.out.1 k_ e_.symm)) hs_));have n2_:=Aside0.mk (hb);clear HO_0;clear HK;clear HB;have HO_0:=n0_;have HK:=n1_;have HB:=n2_;clear n0_ n1_ n2_;(try clear hb);(try clear hkp);(try clear hy0)));go_roundg k1
     case measure=>have:=HK1.out;omega
     case rel=>exact ⟨(t592),(wrap64 (x10_1 - x11_1)),(x11_1),(by first|rfl|(simp;done)|(simp [*];done)),(by first|rfl|(simp;done)|(simp [*];done)),H',⟨by have:=HK1.out;omega⟩,⟨by (with_reducible repeat (first|apply Kd.R_alloc|apply Kd.R_drewN|apply Kd.R_drew));exact HO_0.out⟩,⟨by repeat (first|(with_reducible first|exact HK.out|apply Kept.alloc|apply Kept.drewN|apply Kept.drew)|exact HK.out)⟩,⟨by repeat (first|(with_reducible first|exact HB.out|apply bal|apply bdN|apply bd1)|exact HB.out)⟩⟩
    ·rw [if_neg c10] at H;have c10b0:decide (x11_1 < x10_1)=false:=decide_eq_false c10;clear c10;replace H:=Option.bind_eq_some_iff.mp H;obtain ⟨t593,A140,H⟩:=H;replace H:(api_File_88.l0 k1 t593 a2 x10_1 (wrap64 (x11_1 - x10_1)))=some r:=H;have A14:=Aside0.mk A140;clear A140;have H':=Aside0.mk H;clear H;obtain ⟨Ao15,co15,eo15⟩:=Kd.R_slice HO_0.out;subst eo15;go_wp2_with (first|((with_reducible refine gate_callee (f:=92) rfl ?_);refine goesL_ (some 46) rfl rfl Tryd.func92 (by kernel_rfl) rfl #[.slice Ao15 x0_1.length co15,.int .i64 (wrap64 (a2 - x10_1)),.int .i64 (wrap64 ((wrap64 (a2 + x11_1)) - x10_1)),.int .i64 x10_1,.func (.func 70) #[] #[]] rfl (by (try simp only [List.map_toArray,List.map_cons,List.map_nil]);first|done|rfl|(simp only [List.length_drop,List.length_take];rfl)) ?_;(with_reducible refine (api_File_92.calls k1 (fun k_=>some k_=(.slice Ao15 x0_1.length co15:Value).ownBlock) (.slice Ao15 x0_1.length co15) x0_1 (wrap64 (a2 - x10_1)) (wrap64 ((wrap64 (a2 + x11_1)) - x10_1)) x10_1 t593 w0 _ ?side1 ?side2 A14.out).mono ?_);(case side1=>repeat (first|(with_reducible first|exact HB.out|apply bal|apply bdN|apply bd1)|exact HB.out));(case side2=>exact Kd.R_tight rfl HO_0.out);rintro e w16 ⟨rfl,hy0,hb,hkp⟩;refine ⟨_,rfl,?_⟩;have n0_:=Aside0.mk (Kd.R_reok rfl hy0 (fun k_ e_=>HO_0.out.1 k_ e_));have n1_:=Aside0.mk (Kept.then_ (S:=(fun k_=>P0_ k_)) (by repeat (first|(with_reducible first|exact HK.out|apply Kept.alloc|apply Kept.drewN|apply Kept.drew)|exact HK.out)) hkp (fun k_ hs_=>(fun e_=>(HO_0.out.1 k_ e_.symm)) hs_));have n2_:=Aside0.mk (hb);clear HO_0;clear HK;clear HB;have HO_0:=n0_;have HK:=n1_;have HB:=n2_;clear n0_ n1_ n2_;(try clear hb);(try clear hkp);(try clear hy0)));go_roundg k1
     case measure=>have:=HK1.out;omega
     case rel=>exact ⟨(t593),(x10_1),(wrap64 (x11_1 - x10_1)),(by first|rfl|(simp;done)|(simp [*];done)),(by first|rfl|(simp;done)|(simp [*];done)),H',⟨by have:=HK1.out;omega⟩,⟨by (with_reducible repeat (first|apply Kd.R_alloc|apply Kd.R_drewN|apply Kd.R_drew));exact HO_0.out⟩,⟨by repeat (first|(with_reducible first|exact HK.out|apply Kept.alloc|apply Kept.drewN|apply Kept.drew)|exact HK.out)⟩,⟨by repeat (first|(with_reducible first|exact HB.out|apply bal|apply bdN|apply bd1)|exact HB.out)⟩⟩
end Go.Proofs.YtmeofdpmddjbgaaDoor.G
end
