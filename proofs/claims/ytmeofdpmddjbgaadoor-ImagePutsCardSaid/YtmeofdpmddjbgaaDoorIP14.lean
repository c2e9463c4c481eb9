/- Texts of this session's claim of ImagePuts, less what its theorem does not reach. No condition. -/
import Derived.Laws.Bits128
import Derived.Laws.BitsLemmas
import Derived.Test.YtmeofdpmddjbgaaDoorIP11
import Derived.Test.YtmeofdpmddjbgaaDoorIP13
section
namespace Go.Proofs.YtmeofdpmddjbgaaDoor.G
open Go.RowKit Go.Proofs.YtmeofdpmddjbgaaDoorW.PrintWords Go.Proofs.YtmeofdpmddjbgaaDoorW.PrintLast Go.Proofs.YtmeofdpmddjbgaaDoorW.PrintMore
attribute [local go_sem] max2_int min2_int max_two min_two max_three min_three max_four min_four   
set_option linter.unusedVariables false
set_option linter.unusedSimpArgs false
def code_Reader_Raw.f (s0_0:ByteArray) (s0_1:Int) (s0_2:Int) (a1:Int):Option (ByteArray × ByteArray × Int × Int):=(code_Reader_off.f s0_0 s0_1 s0_2).bind fun bt259=>(if bt259.1=true then (some ((⟨#[]⟩:ByteArray),bt259.2.1,bt259.2.2.1,bt259.2.2.2)) else (if a1 < 0 then ((code_Reader_fail.f bt259.2.1 bt259.2.2.1 bt259.2.2.2 1).bind fun bt263=>(some ((⟨#[]⟩:ByteArray),bt263.1,bt263.2.1,bt263.2.2))) else ((code_Reader_Left.f bt259.2.1 bt259.2.2.1 bt259.2.2.2).bind fun bt266=>(if a1 > bt266.1 then ((code_Reader_fail.f bt266.2.1 bt266.2.2.1 bt266.2.2.2 3).bind fun bt270=>(some ((⟨#[]⟩:ByteArray),bt270.1,bt270.2.1,bt270.2.2))) else (if 0≤(wrap64 ((wrap64 (bt266.2.2.1 + a1)) - a1)) then (if (wrap64 ((wrap64 (bt266.2.2.1 + a1)) - a1))≤(wrap64 (bt266.2.2.1 + a1)) then (if (wrap64 (bt266.2.2.1 + a1))≤(bt266.2.1.size:Int) then (some (bt266.2.1.extract ((wrap64 ((wrap64 (bt266.2.2.1 + a1)) - a1)):Int).toNat ((wrap64 (bt266.2.2.1 + a1)):Int).toNat,bt266.2.1,wrap64 (bt266.2.2.1 + a1),bt266.2.2.2)) else (none)) else (none)) else (none))))))
set_option maxHeartbeats 8000000 in
set_option maxRecDepth 100000 in
theorem code_Reader_Raw.calls (g:Nat) (s0_0:ByteArray) (s0_1:Int) (s0_2:Int) (a1:Int) (r1:ByteArray) (r2:ByteArray) (r3:Int) (r4:Int) (w0 w:World) (hI:IsS102 w0 w g s0_0 s0_1 s0_2) (hB:Below w0.heap.size w0 w) (h:code_Reader_Raw.f s0_0 s0_1 s0_2 a1=some (r1,r2,r3,r4)) :
  Calls Tryd.prog 76 #[.pointer (some ⟨g,0,none⟩),.int .i64 a1] w fun e w'=>e=.returned (.string r1)∧IsS102 w0 w' g r2 r3 r4∧Below w0.heap.size w0 w'∧KeepBut w w' g none:=by
 have HI0:=Aside0.mk hI;have HK:=Aside0.mk (KeepBut.refl w g none);have HL:=Aside0.mk hB.size;clear hI;have HW0:=Aside0.mk hB.size;have HB:=Aside0.mk hB;clear hB;have H:((code_Reader_off.f s0_0 s0_1 s0_2).bind fun bt259=>(if bt259.1=true then (some ((⟨#[]⟩:ByteArray),bt259.2.1,bt259.2.2.1,bt259.2.2.2)) else (if a1 < 0 then ((code_Reader_fail.f bt259.2.1 bt259.2.2.1 bt259.2.2.2 1).bind fun bt263=>(some ((⟨#[]⟩:ByteArray),bt263.1,bt263.2.1,bt263.2.2))) else ((code_Reader_Left.f bt259.2.1 bt259.2.2.1 bt259.2.2.2).bind fun bt266=>(if a1 > bt266.1 then ((code_Reader_fail.f bt266.2.1 bt266.2.2.1 bt266.2.2.2 3).bind fun bt270=>(some ((⟨#[]⟩:ByteArray),bt270.1,bt270.2.1,bt270.2.2))) else (if 0≤(wrap64 ((wrap64 (bt266.2.2.1 + a1)) - a1)) then (if (wrap64 ((wrap64 (bt266.2.2.1 + a1)) - a1))≤(wrap64 (bt266.2.2.1 + a1)) then (if (wrap64 (bt266.2.2.1 + a1))≤(bt266.2.1.size:Int) then (some (bt266.2.1.extract ((wrap64 ((wrap64 (bt266.2.2.1 + a1)) - a1)):Int).toNat ((wrap64 (bt266.2.2.1 + a1)):Int).toNat,bt266.2.1,wrap64 (bt266.2.2.1 + a1),bt266.2.2.2)) else (none)) else (none)) else (none)))))))=some (r1,r2,r3,r4):=h;clear h;replace H:=Option.bind_eq_some_iff.mp H;obtain ⟨⟨t259,t260,t261,t262⟩,A30,H⟩:=H;replace H:(if t259=true then (some ((⟨#[]⟩:ByteArray),t260,t261,t262)) else (if a1 < 0 then ((code_Reader_fail.f t260 t261 t262 1).bind fun bt263=>(some ((⟨#[]⟩:ByteArray),bt263.1,bt263.2.1,bt263.2.2))) else ((code_Reader_Left.f t260 t261 t262).bind fun bt266=>(if a1 > bt266.1 then ((code_Reader_fail.f bt266.2.1 bt266.2.2.1 bt266.2.2.2 3).bind fun bt270=>(some ((⟨#[]⟩:ByteArray),bt270.1,bt270.2.1,bt270.2.2))) else (if 0≤(wrap64 ((wrap64 (bt266.2.2.1 + a1)) - a1)) then (if (wrap64 ((wrap64 (bt266.2.2.1 + a1)) - a1))≤(wrap64 (bt266.2.2.1 + a1)) then (if (wrap64 (bt266.2.2.1 + a1))≤(bt266.2.1.size:Int) then (some (bt266.2.1.extract ((wrap64 ((wrap64 (bt266.2.2.1 + a1)) - a1)):Int).toNat ((wrap64 (bt266.2.2.1 + a1)):Int).toNat,bt266.2.1,wrap64 (bt266.2.2.1 + a1),bt266.2.2.2)) else (none)) else (none)) else (none))))))=some (r1,r2,r3,r4):=H;have A3:=Aside0.mk A30;clear A30;by_cases c4:t259=true
 ·subst c4;(have H1:(some ((⟨#[]⟩:ByteArray),t260,t261,t262))=some (r1,r2,r3,r4):=by rw [if_pos rfl] at H;exact H);clear H;have H:=H1;clear H1;simp only [Option.some.injEq,Prod.mk.injEq] at H;obtain ⟨rfl,rfl,rfl,rfl⟩:=H;go_enter Tryd.func76,Tryd.ntmps76;go_wp2_with (first|(go_at_call 74;(with_reducible refine (code_Reader_off.calls g s0_0 s0_1 s0_2 true t260 t261 t262 w0 _ ?side1 ?side2 A3.out).mono ?_);(case side1=>repeat (first|(with_reducible first|exact HI0.out|apply IsS102.alloc|apply IsS102.drewN|apply IsS102.drew|apply IsS102.set_0|apply IsS102.set_1|apply IsS102.set_2)|exact HI0.out));(case side2=>repeat (first|(with_reducible first|exact HB.out|apply bal|apply bdN|apply bd1|refine below_set ?_ (IsS102.ge HI0.out))|exact HB.out));rintro e w5 ⟨rfl,hi,hb,hk⟩;have n0_:=Aside0.mk (KeepBut.trans (by repeat (first|(with_reducible first|exact HK.out|apply KeepBut.set_|apply keep_drewN|apply keep_drew|apply keep_alloc)|exact HK.out)) hk (.inl rfl));have n1_:=Aside0.mk (hb);have n2_:=Aside0.mk (hi);clear HK;clear HB;clear HI0;have HK:=n0_;have HB:=n1_;have HI0:=n2_;clear n0_ n1_ n2_;(try clear hb);(try clear hb2);(try clear hk);(try clear hi)));(repeat (go_quiet (first|(go_at_call 74;(with_reducible refine (code_Reader_off.calls g s0_0 s0_1 s0_2 true t260 t261 t262 w0 _ ?side1 ?side2 A3.out).mono ?_);(case side1=>repeat (first|(with_reducible first|exact HI0.out|apply IsS102.alloc|apply IsS102.drewN|apply IsS102.drew|apply IsS102.set_0|apply IsS102.set_1|apply IsS102.set_2)|exact HI0.out));(case side2=>repeat (first|(with_reducible first|exact HB.out|apply bal|apply bdN|apply bd1|refine below_set ?_ (IsS102.ge HI0.out))|exact HB.out));rintro e w5 ⟨rfl,hi,hb,hk⟩;have n0_:=Aside0.mk (KeepBut.trans (by repeat (first|(with_reducible first|exact HK.out|apply KeepBut.set_|apply keep_drewN|apply keep_drew|apply keep_alloc)|exact HK.out)) hk (.inl rfl));have n1_:=Aside0.mk (hb);have n2_:=Aside0.mk (hi);clear HK;clear HB;clear HI0;have HK:=n0_;have HB:=n1_;have HI0:=n2_;clear n0_ n1_ n2_;(try clear hb);(try clear hb2);(try clear hk);(try clear hi)));try go_wp2_with (first|(go_at_call 74;(with_reducible refine (code_Reader_off.calls g s0_0 s0_1 s0_2 true t260 t261 t262 w0 _ ?side1 ?side2 A3.out).mono ?_);(case side1=>repeat (first|(with_reducible first|exact HI0.out|apply IsS102.alloc|apply IsS102.drewN|apply IsS102.drew|apply IsS102.set_0|apply IsS102.set_1|apply IsS102.set_2)|exact HI0.out));(case side2=>repeat (first|(with_reducible first|exact HB.out|apply bal|apply bdN|apply bd1|refine below_set ?_ (IsS102.ge HI0.out))|exact HB.out));rintro e w5 ⟨rfl,hi,hb,hk⟩;have n0_:=Aside0.mk (KeepBut.trans (by repeat (first|(with_reducible first|exact HK.out|apply KeepBut.set_|apply keep_drewN|apply keep_drew|apply keep_alloc)|exact HK.out)) hk (.inl rfl));have n1_:=Aside0.mk (hb);have n2_:=Aside0.mk (hi);clear HK;clear HB;clear HI0;have HK:=n0_;have HB:=n1_;have HI0:=n2_;clear n0_ n1_ n2_;(try clear hb);(try clear hb2);(try clear hk);(try clear hi)))));go_ret;exact ⟨by first|rfl|(simp [errW_none,errW_some] <;> rfl)|(simp [*,errW_none,errW_some] <;> rfl),by repeat (first|(with_reducible first|exact HI0.out|apply IsS102.alloc|apply IsS102.drewN|apply IsS102.drew|apply IsS102.set_0|apply IsS102.set_1|apply IsS102.set_2)|exact HI0.out),by repeat (first|(with_reducible first|exact HB.out|apply bal|apply bdN|apply bd1|refine below_set ?_ (IsS102.ge HI0.out))|exact HB.out),by repeat (first|(with_reducible first|exact HK.out|apply KeepBut.set_|apply keep_drewN|apply keep_drew|apply keep_alloc)|exact HK.out)⟩
 ·replace c4:=Bool.eq_false_iff.mpr c4;subst c4;(have H1:(if a1 < 0 then ((code_Reader_fail.f t260 t261 t262 1).bind fun bt263=>(some ((⟨#[]⟩:ByteArray),bt263.1,bt263.2.1,bt263.2.2))) else ((code_Reader_Left.f t260 t261 t262).bind fun bt266=>(if a1 > bt266.1 then ((code_Reader_fail.f bt266.2.1 bt266.2.2.1 bt266.2.2.2 3).bind fun bt270=>(some ((⟨#[]⟩:ByteArray),bt270.1,bt270.2.1,bt270.2.2))) else (if 0≤(wrap64 ((wrap64 (bt266.2.2.1 + a1)) - a1)) then (if (wrap64 ((wrap64 (bt266.2.2.1 + a1)) - a1))≤(wrap64 (bt266.2.2.1 + a1)) then (if (wrap64 (bt266.2.2.1 + a1))≤(bt266.2.1.size:Int) then (some (bt266.2.1.extract ((wrap64 ((wrap64 (bt266.2.2.1 + a1)) - a1)):Int).toNat ((wrap64 (bt266.2.2.1 + a1)):Int).toNat,bt266.2.1,wrap64 (bt266.2.2.1 + a1),bt266.2.2.2)) else (none)) else (none)) else (none)))))=some (r1,r2,r3,r4):=by rw [if_neg (show ¬ (false=true) by decide)] at H;exact H);clear H;have H:=H1;clear H1;by_cases c6:a1 < 0
  ·rw [if_pos c6] at H;have c6b0:decide (a1 < 0)=true:=decide_eq_true c6;clear c6;replace H:=Option.bind_eq_some_iff.mp H;obtain ⟨⟨t263,t264,t265⟩,A70,H⟩:=H;replace H:(some ((⟨#[]⟩:ByteArray),t263,t264,t265))=some (r1,r2,r3,r4):=H;have A7:=Aside0.mk A70;clear A70;simp only [Option.some.injEq,Prod.mk.injEq] at H;obtain ⟨rfl,rfl,rfl,rfl⟩:=H;go_enter Tryd.func76,Tryd.ntmps76;go_wp2_with (first|(go_at_call 74;(with_reducible refine (code_Reader_off.calls g s0_0 s0_1 s0_2 false t260 t261 t262 w0 _ ?side1 ?side2 A3.out).mono ?_);(case side1=>repeat (first|(with_reducible first|exact HI0.out|apply IsS102.alloc|apply IsS102.drewN|apply IsS102.drew|apply IsS102.set_0|apply IsS102.set_1|apply IsS102.set_2)|exact HI0.out));(case side2=>repeat (first|(with_reducible first|exact HB.out|apply bal|apply bdN|apply bd1|refine below_set ?_ (IsS102.ge HI0.out))|exact HB.out));rintro e w8 ⟨rfl,hi,hb,hk⟩;have n0_:=Aside0.mk (KeepBut.trans (by repeat (first|(with_reducible first|exact HK.out|apply KeepBut.set_|apply keep_drewN|apply keep_drew|apply keep_alloc)|exact HK.out)) hk (.inl rfl));have n1_:=Aside0.mk (hb);have n2_:=Aside0.mk (hi);clear HK;clear HB;clear HI0;have HK:=n0_;have HB:=n1_;have HI0:=n2_;clear n0_ n1_ n2_;(try clear hb);(try clear hb2);(try clear hk);(try clear hi))|(go_at_call 75;(with_reducible refine (code_Reader_fail.calls g t260 t261 t262 1 t263 t264 t265 w0 _ ?side1 ?side2 A7.out).mono ?_);(case side1=>repeat (first|(with_reducible first|exact HI0.out|apply IsS102.alloc|apply IsS102.drewN|apply IsS102.drew|apply IsS102.set_0|apply IsS102.set_1|apply IsS102.set_2)|exact HI0.out));(case side2=>repeat (first|(with_reducible first|exact HB.out|apply bal|apply bdN|apply bd1|refine below_set ?_ (IsS102.ge HI0.out))|exact HB.out));rintro e w9 ⟨rfl,hi,hb,hk⟩;have n0_:=Aside0.mk (KeepBut.trans (by repeat (first|(with_reducible first|exact HK.out|apply KeepBut.set_|apply keep_drewN|apply keep_drew|apply keep_alloc)|exact HK.out)) hk (.inl rfl));have n1_:=Aside0.mk (hb);have n2_:=Aside0.mk (hi);clear HK;clear HB;clear HI0;have HK:=n0_;have HB:=n1_;have HI0:=n2_;clear n0_ n1_ n2_;(try clear hb);(try clear hb2);(try clear hk);(try clear hi)));(repeat (go_quiet (first|(go_at_call 74;(with_reducible refine (code_Reader_off.calls g s0_0 s0_1 s0_2 false t260 t261 t262 w0 _ ?side1 ?side2 A3.out).mono ?_);(case side1=>repeat (first|(with_reducible first|exact HI0.out|apply IsS102.alloc|apply IsS102.drewN|apply IsS102.drew|apply IsS102.set_0|apply IsS102.set_1|apply IsS102.set_2)|exact HI0.out));(case side2=>repeat (first|(with_reducible first|exact HB.out|apply bal|apply bdN|apply bd1|refine below_set ?_ (IsS102.ge HI0.out))|exact HB.out));rintro e w8 ⟨rfl,hi,hb,hk⟩;have n0_:=Aside0.mk (KeepBut.trans (by repeat (first|(with_reducible first|exact HK.out|apply KeepBut.set_|apply keep_drewN|apply keep_drew|apply keep_alloc)|exact HK.out)) hk (.inl rfl));have n1_:=Aside0.mk (hb);have n2_:=Aside0.mk (hi);clear HK;clear HB;clear HI0;have HK:=n0_;have HB:=n1_;have HI0:=n2_;clear n0_ n1_ n2_;(try clear hb);(try clear hb2);(try clear hk);(try clear hi))|(go_at_call 75;(with_reducible refine (code_Reader_fail.calls g t260 t261 t262 1 t263 t264 t265 w0 _ ?side1 ?side2 A7.out).mono ?_);(case side1=>repeat (first|(with_reducible first|exact HI0.out|apply IsS102.alloc|apply IsS102.drewN|apply IsS102.drew|apply IsS102.set_0|apply IsS102.set_1|apply IsS102.set_2)|exact HI0.out));(case side2=>repeat (first|(with_reducible first|exact HB.out|apply bal|apply bdN|apply bd1|refine below_set ?_ (IsS102.ge HI0.out))|exact HB.out));rintro e w9 ⟨rfl,hi,hb,hk⟩;have n0_:=Aside0.mk (KeepBut.trans (by repeat (first|(with_reducible first|exact HK.out|apply KeepBut.set_|apply keep_drewN|apply keep_drew|apply keep_alloc)|exact HK.out)) hk (.inl rfl));have n1_:=Aside0.mk (hb);have n2_:=Aside0.mk (hi);clear HK;clear HB;clear HI0;have HK:=n0_;have HB:=n1_;have HI0:=n2_;clear n0_ n1_ n2_;(try clear hb);(try clear hb2);(try clear hk);(try clear hi)));try go_wp2_with (first|(go_at_call 74;(with_reducible refine (code_Reader_off.calls g s0_0 s0_1 s0_2 false t260 t261 t262 w0 _ ?side1 ?side2 A3.out).mono ?_);(case side1=>repeat (first|(with_reducible first|exact HI0.out|apply IsS102.alloc|apply IsS102.drewN|apply IsS102.drew|apply IsS102.set_0|apply IsS102.set_1|apply IsS102.set_2)|exact HI0.out));(case side2=>repeat (first|(with_reducible first|exact HB.out|apply bal|apply bdN|apply bd1|refine below_set ?_ (IsS102.ge HI0.out))|exact HB.out));rintro e w8 ⟨rfl,hi,hb,hk⟩;have n0_:=Aside0.mk (KeepBut.trans (by repeat (first|(with_reducible first|exact HK.out|apply KeepBut.set_|apply keep_drewN|apply keep_drew|apply keep_alloc)|exact HK.out)) hk (.inl rfl));have n1_:=Aside0.mk (hb);have n2_:=Aside0.mk (hi);clear HK;clear HB;clear HI0;have HK:=n0_;have HB:=n1_;have HI0:=n2_;clear n0_ n1_ n2_;(try clear hb);(try clear hb2);(try clear hk);(try clear hi))|(go_at_call 75;(with_reducible refine (code_Reader_fail.calls g t260 t261 t262 1 t263 t264 t265 w0 _ ?side1 ?side2 A7.out).mono ?_);(case side1=>repeat (first|(with_reducible first|exact HI0.out|apply IsS102.alloc|apply IsS102.drewN|apply IsS102.drew|apply IsS102.set_0|apply IsS102.set_1|apply IsS102.set_2)|exact HI0.out));(case side2=>repeat (first|(with_reducible first|exact HB.out|apply bal|apply bdN|apply bd1|refine below_set ?_ (IsS102.ge HI0.out))|exact HB.out));rintro e w9 ⟨rfl,hi,hb,hk⟩;have n0_:=Aside0.mk (KeepBut.trans (by repeat (first|(with_reducible first|exact HK.out|apply KeepBut.set_|apply keep_drewN|apply keep_drew|apply keep_alloc)|exact HK.out)) hk (.inl rfl));have n1_:=Aside0.mk (hb);have n2_:=Aside0.mk (hi);clear HK;clear HB;clear HI0;have HK:=n0_;have HB:=n1_;have HI0:=n2_;clear n0_ n1_ n2_;(try clear hb);(try clear hb2);(try clear hk);(try clear hi)))));go_ret;exact ⟨by first|rfl|(simp [errW_none,errW_some] <;> rfl)|(simp [*,errW_none,errW_some] <;> rfl),by repeat (first|(with_reducible first|exact HI0.out|apply IsS102.alloc|apply IsS102.drewN|apply IsS102.drew|apply IsS102.set_0|apply IsS102.set_1|apply IsS102.set_2)|exact HI0.out),by repeat (first|(with_reducible first|exact HB.out|apply bal|apply bdN|apply bd1|refine below_set ?_ (IsS102.ge HI0.out))|exact HB.out),by repeat (first|(with_reducible first|exact HK.out|apply KeepBut.set_|apply keep_drewN|apply keep_drew|apply keep_alloc)|exact HK.out)⟩
  ·rw [if_neg c6] at H;have c6b0:decide (a1 < 0)=false:=decide_eq_false c6;clear c6;replace H:=Option.bind_eq_some_iff.mp H;obtain ⟨⟨t266,t267,t268,t269⟩,A100,H⟩:=H;replace H:(if a1 > t266 then ((code_Reader_fail.f t267 t268 t269 3).bind fun bt270=>(some ((⟨#[]⟩:ByteArray),bt270.1,bt270.2.1,bt270.2.2))) else (if 0≤(wrap64 ((wrap64 (t268 + a1)) - a1)) then (if (wrap64 ((wrap64 (t268 + a1)) - a1))≤(wrap64 (t268 + a1)) then (if (wrap64 (t268 + a1))≤(t267.size:Int) then (some (t267.extract ((wrap64 ((wrap64 (t268 + a1)) - a1)):Int).toNat ((wrap64 (t268 + a1)):Int).toNat,t267,wrap64 (t268 + a1),t269)) else (none)) else (none)) else (none)))=some (r1,r2,r3,r4):=H;have A10:=Aside0.mk A100;clear A100;by_cases c11:a1 > t266
   ·rw [if_pos c11] at H;have c11b0:decide (t266 < a1)=true:=decide_eq_true c11;clear c11;replace H:=Option.bind_eq_some_iff.mp H;obtain ⟨⟨t270,t271,t272⟩,A120,H⟩:=H;replace H:(some ((⟨#[]⟩:ByteArray),t270,t271,t272))=some (r1,r2,r3,r4):=H;have A12:=Aside0.mk A120;clear A120;simp only [Option.some.injEq,Prod.mk.injEq] at H;obtain ⟨rfl,rfl,rfl,rfl⟩:=H;go_enter Tryd.func76,Tryd.ntmps76;go_wp2_with (first|(go_at_call 74;(with_reducible refine (code_Reader_off.calls g s0_0 s0_1 s0_2 false t260 t261 t262 w0 _ ?side1 ?side2 A3.out).mono ?_);(case side1=>repeat (first|(with_reducible first|exact HI0.out|apply IsS102.alloc|apply IsS102.drewN|apply IsS102.drew|apply IsS102.set_0|apply IsS102.set_1|apply IsS102.set_2)|exact HI0.out));(case side2=>repeat (first|(with_reducible first|exact HB.out|apply bal|apply bdN|apply bd1|refine below_set ?_ (IsS102.ge HI0.out))|exact HB.out));rintro e w13 ⟨rfl,hi,hb,hk⟩;have n0_:=Aside0.mk (KeepBut.trans (by repeat (first|(with_reducible first|exact HK.out|apply KeepBut.set_|apply keep_drewN|apply keep_drew|apply keep_alloc)|exact HK.out)) hk (.inl rfl));have n1_:=Aside0.mk (hb);have n2_:=Aside0.mk (hi);clear HK;clear HB;clear HI0;have HK:=n0_;have HB:=n1_;have HI0:=n2_;clear n0_ n1_ n2_;(try clear hb);(try clear hb2);(try clear hk);(try clear hi))|(go_at_call 59;(with_reducible refine (code_Reader_Left.calls g t260 t261 t262 t266 t267 t268 t269 w0 _ ?side1 ?side2 A10.out).mono ?_);(case side1=>repeat (first|(with_reducible first|exact HI0.out|apply IsS102.alloc|apply IsS102.drewN|apply IsS102.drew|apply IsS102.set_0|apply IsS102.set_1|apply IsS102.set_2)|exact HI0.out));(case side2=>repeat (first|(with_reducible first|exact HB.out|apply bal|apply bdN|apply bd1|refine below_set ?_ (IsS102.ge HI0.out))|exact HB.out));rintro e w14 ⟨rfl,hi,hb,hk⟩;have n0_:=Aside0.mk (KeepBut.trans (by repeat (first|(with_reducible first|exact HK.out|apply KeepBut.set_|apply keep_drewN|apply keep_drew|apply keep_alloc)|exact HK.out)) hk (.inl rfl));have n1_:=Aside0.mk (hb);have n2_:=Aside0.mk (hi);clear HK;clear HB;clear HI0;have HK:=n0_;have HB:=n1_;have HI0:=n2_;clear n0_ n1_ n2_;(try clear hb);(try clear hb2);(try clear hk);(try clear hi))|(go_at_call 75;(with_reducible refine (code_Reader_fail.calls g t267 t268 t269 3 t270 t271 t272 w0 _ ?side1 ?side2 A12.out).mono ?_);(case side1=>repeat (first|(with_reducible first|exact HI0.out|apply IsS102.alloc|apply IsS102.drewN|apply IsS102.drew|apply IsS102.set_0|apply IsS102.set_1|apply IsS102.set_2)|exact HI0.out));(case side2=>repeat (first|(with_reducible first|exact HB.out|apply bal|apply bdN|apply bd1|refine below_set ?_ (IsS102.ge HI0.out))|exact HB.out));rintro e w15 ⟨rfl,hi,hb,hk⟩;have n0_:=Aside0.mk (KeepBut.trans (by repeat (first|(with_reducible first|exact HK.out|apply KeepBut.set_|apply keep_drewN|apply keep_drew|apply keep_alloc)|exact HK.out)) hk (.inl rfl));have n1_:=Aside0.mk (hb);have n2_:=Aside0.mk (hi);clear HK;clear HB;clear HI0;have HK:=n0_;have HB:=n1_;have HI0:=n2_;clear n0_ n1_ n2_;(try clear hb);(try clear hb2);(try clear hk);(try clear hi)));(repeat (go_quiet (first|(go_at_call 74;(with_reducible refine (code_Reader_off.calls g s0_0 s0_1 s0_2 false t260 t261 t262 w0 _ ?side1 ?side2 A3.out).mono ?_);(case side1=>repeat (first|(with_reducible first|exact HI0.out|apply IsS102.alloc|apply IsS102.drewN|apply IsS102.drew|apply IsS102.set_0|apply IsS102.set_1|apply IsS102.set_2)|exact HI0.out));(case side2=>repeat (first|(with_reducible first|exact HB.out|apply bal|apply bdN|apply bd1|refine below_set ?_ (IsS102.ge HI0.out))|exact HB.out));rintro e w13 ⟨rfl,hi,hb,hk⟩;have n0_:=Aside0.mk (KeepBut.trans (by repeat (first|(with_reducible first|exact HK.out|apply KeepBut.set_|apply keep_drewN|apply keep_drew|apply keep_alloc)|exact HK.out)) hk (.inl rfl));have n1_:=Aside0.mk (hb);have n2_:=Aside0.mk (hi);clear HK;clear HB;clear HI0;have HK:=n0_;have HB:=n1_;have HI0:=n2_;clear n0_ n1_ n2_;(try clear hb);(try clear hb2);(try clear hk);(try clear hi))|(go_at_call 59;(with_reducible refine (code_Reader_Left.calls g t260 t261 t262 t266 t267 t268 t269 w0 _ ?side1 ?side2 A10.out).mono ?_);(case side1=>repeat (first|(with_reducible first|exact HI0.out|apply IsS102.alloc|apply IsS102.drewN|apply IsS102.drew|apply IsS102.set_0|apply IsS102.set_1|apply IsS102.set_2)|exact HI0.out));(case side2=>repeat (first|(with_reducible first|exact HB.out|apply bal|apply bdN|apply bd1|refine below_set ?_ (IsS102.ge HI0.out))|exact HB.out));rintro e w14 ⟨rfl,hi,hb,hk⟩;have n0_:=Aside0.mk (KeepBut.trans (by repeat (first|(with_reducible first|exact HK.out|apply KeepBut.set_|apply keep_drewN|apply keep_drew|apply keep_alloc)|exact HK.out)) hk (.inl rfl));have n1_:=Aside0.mk (hb);have n2_:=Aside0.mk (hi);clear HK;clear HB;clear HI0;have HK:=n0_;have HB:=n1_;have HI0:=n2_;clear n0_ n1_ n2_;(try clear hb);(try clear hb2);(try clear hk);(try clear hi))|(go_at_call 75;(with_reducible refine (code_Reader_fail.calls g t267 t268 t269 3 t270 t271 t272 w0 _ ?side1 ?side2 A12.out).mono ?_);(case side1=>repeat (first|(with_reducible first|exact HI0.out|apply IsS102.alloc|apply IsS102.drewN|apply IsS102.drew|apply IsS102.set_0|apply IsS102.set_1|apply IsS102.set_2)|exact HI0.out));(case side2=>repeat (first|(with_reducible first|exact HB.out|apply bal|apply bdN|apply bd1|refine below_set ?_ (IsS102.ge HI0.out))|exact HB.out));rintro e w15 ⟨rfl,hi,hb,hk⟩;have n0_:=Aside0.mk (KeepBut.trans (by repeat (first|(with_reducible first|exact HK.out|apply KeepBut.set_|apply keep_drewN|apply keep_drew|apply keep_alloc)|exact HK.out)) hk (.inl rfl));have n1_:=Aside0.mk (hb);have n2_:=Aside0.mk (hi);clear HK;clear HB;clear HI0;have HK:=n0_;have HB:=n1_;have HI0:=n2_;clear n0_ n1_ n2_;(try clear hb);(try clear hb2);(try clear hk);(try clear hi)));try go_wp2_with (first|(go_at_call 74;(with_reducible refine (code_Reader_off.calls g s0_0 s0_1 s0_2 false t260 t261 t262 w0 _ ?side1 ?side2 A3.out).mono ?_);(case side1=>repeat (first|(with_reducible first|exact HI0.out|apply IsS102.alloc|apply IsS102.drewN|apply IsS102.drew|apply IsS102.set_0|apply IsS102.set_1|apply IsS102.set_2)|exact HI0.out));(case side2=>repeat (first|(with_reducible first|exact HB.out|apply bal|apply bdN|apply bd1|refine below_set ?_ (IsS102.ge HI0.out))|exact HB.out));rintro e w13 ⟨rfl,hi,hb,hk⟩;have n0_:=Aside0.mk (KeepBut.trans (by repeat (first|(with_reducible first|exact HK.out|apply KeepBut.set_|apply keep_drewN|apply keep_drew|apply keep_alloc)|exact HK.out)) hk (.inl rfl));have n1_:=Aside0.mk (hb);have n2_:=Aside0.mk (hi);clear HK;clear HB;clear HI0;have HK:=n0_;have HB:=n1_;have HI0:=n2_;clear n0_ n1_ n2_;(try clear hb);(try clear hb2);(try clear hk);(try clear hi))|(go_at_call 59;(with_reducible refine (code_Reader_Left.calls g t260 t261 t262 t266 t267 t268 t269 w0 _ ?side1 ?side2 A10.out).mono ?_);(case side1=>repeat (first|(with_reducible first|exact HI0.out|apply IsS102.alloc|apply IsS102.drewN|apply IsS102.drew|apply IsS102.set_0|apply IsS102.set_1|apply IsS102.set_2)|exact HI0.out));(case side2=>repeat (first|(with_reducible first|exact HB.out|apply bal|apply bdN|apply bd1|refine below_set ?_ (IsS102.ge HI0.out))|exact HB.out));rintro e w14 ⟨rfl,hi,hb,hk⟩;have n0_:=Aside0.mk (KeepBut.trans (by repeat (first|(with_reducible first|exact HK.out|apply KeepBut.set_|apply keep_drewN|apply keep_drew|apply keep_alloc)|exact HK.out)) hk (.inl rfl));have n1_:=Aside0.mk (hb);have n2_:=Aside0.mk (hi);clear HK;clear HB;clear HI0;have HK:=n0_;have HB:=n1_;have HI0:=n2_;clear n0_ n1_ n2_;(try clear hb);(try clear hb2);(try clear hk);(try clear hi))|(go_at_call 75;(with_reducible refine (code_Reader_fail.calls g t267 t268 t269 3 t270 t271 t272 w0 _ ?side1 ?side2 A12.out).mono ?_);(case side1=>repeat (first|(with_reducible first|exact HI0.out|apply IsS102.alloc|apply IsS102.drewN|apply IsS102.drew|apply IsS102.set_0|apply IsS102.set_1|apply IsS102.set_2)|exact HI0.out));(case side2=>repeat (first|(with_reducible first|exact HB.out|apply bal|apply bdN|apply bd1|refine below_set ?_ (IsS102.ge HI0.out))|exact HB.out));rintro e w15 ⟨rfl,hi,hb,hk⟩;have n0_:=Aside0.mk (KeepBut.trans (by repeat (first|(with_reducible first|exact HK.out|apply KeepBut.set_|apply keep_drewN|apply keep_drew|apply keep_alloc)|exact HK.out)) hk (.inl rfl));have n1_:=Aside0.mk (hb);have n2_:=Aside0.mk (hi);clear HK;clear HB;clear HI0;have HK:=n0_;have HB:=n1_;have HI0:=n2_;clear n0_ n1_ n2_;(try clear hb);(try clear hb2);(try clear hk);(try clear hi)))));go_ret;exact ⟨by first|rfl|(simp [errW_none,errW_some] <;> rfl)|(simp [*,errW_none,errW_some] <;> rfl),by repeat (first|(with_reducible first|exact HI0.out|apply IsS102.alloc|apply IsS102.drewN|apply IsS102.drew|apply IsS102.set_0|apply IsS102.set_1|apply IsS102.set_2)|exact HI0.out),by repeat (first|(with_reducible first|exact HB.out|apply bal|apply bdN|apply bd1|refine below_set ?_ (IsS102.ge HI0.out))|exact HB.out),by repeat (first|(with_reducible first|exact HK.out|apply KeepBut.set_|apply keep_drewN|apply keep_drew|apply keep_alloc)|exact HK.out)⟩
   ·rw [if_neg c11] at H;have c11b0:decide (t266 < a1)=false:=decide_eq_false c11;clear c11;obtain ⟨ji16,hji16⟩:∃ j_:Int,(wrap64 ((wrap64 (t268 + a1)) - a1))=j_:=⟨_,rfl⟩;(replace H:(if 0≤(ji16) then (if (ji16)≤(wrap64 (t268 + a1)) then (if (wrap64 (t268 + a1))≤(t267.size:Int) then (some (t267.extract ((ji16):Int).toNat ((wrap64 (t268 + a1)):Int).toNat,t267,wrap64 (t268 + a1),t269)) else (none)) else (none)) else (none))=some (r1,r2,r3,r4):=by first|(rw [hji16] at H;exact H)|(simp only [hji16] at H ⊢;exact H));(try rw [hji16] at A3);(try rw [hji16] at A10);have hji16w:(IntKind.i64.wrap ((wrap64 (t268 + a1)) - a1))=ji16:=(i64_w _).trans hji16;by_cases c17:0≤(ji16)
    ·rw [if_pos c17] at H;have c17b0:=eq_true c17;have c17b1:decide (0≤(ji16))=true:=decide_eq_true c17;clear c17;by_cases c18:(ji16)≤(wrap64 (t268 + a1))
     ·rw [if_pos c18] at H;have c18b0:=eq_true c18;have c18b1:decide ((ji16)≤(wrap64 (t268 + a1)))=true:=decide_eq_true c18;by_cases c19:(wrap64 (t268 + a1))≤(t267.size:Int)
      ·rw [if_pos c19] at H;have c19b0:=eq_true c19;have c19b1:decide ((wrap64 (t268 + a1))≤(t267.size:Int))=true:=decide_eq_true c19;simp only [Option.some.injEq,Prod.mk.injEq] at H;obtain ⟨rfl,rfl,rfl,rfl⟩:=H;go_enter Tryd.func76,Tryd.ntmps76;go_wp2_with (first|(go_at_call 74;(with_reducible refine (code_Reader_off.calls g s0_0 s0_1 s0_2 false t260 t261 t262 w0 _ ?side1 ?side2 A3.out).mono ?_);(case side1=>repeat (first|(with_reducible first|exact HI0.out|apply IsS102.alloc|apply IsS102.drewN|apply IsS102.drew|apply IsS102.set_0|apply IsS102.set_1|apply IsS102.set_2)|exact HI0.out));(case side2=>repeat (first|(with_reducible first|exact HB.out|apply bal|apply bdN|apply bd1|refine below_set ?_ (IsS102.ge HI0.out))|exact HB.out));rintro e w20 ⟨rfl,hi,hb,hk⟩;have n0_:=Aside0.mk (KeepBut.trans (by repeat (first|(with_reducible first|exact HK.out|apply KeepBut.set_|apply keep_drewN|apply keep_drew|apply keep_alloc)|exact HK.out)) hk (.inl rfl));have n1_:=Aside0.mk (hb);have n2_:=Aside0.mk (hi);clear HK;clear HB;clear HI0;have HK:=n0_;have HB:=n1_;have HI0:=n2_;clear n0_ n1_ n2_;(try clear hb);(try clear hb2);(try clear hk);(try clear hi))|(go_at_call 59;(with_reducible refine (code_Reader_Left.calls g t260 t261 t262 t266 t267 t268 t269 w0 _ ?side1 ?side2 A10.out).mono ?_);(case side1=>repeat (first|(with_reducible first|exact HI0.out|apply IsS102.alloc|apply IsS102.drewN|apply IsS102.drew|apply IsS102.set_0|apply IsS102.set_1|apply IsS102.set_2)|exact HI0.out));(case side2=>repeat (first|(with_reducible first|exact HB.out|apply bal|apply bdN|apply bd1|refine below_set ?_ (IsS102.ge HI0.out))|exact HB.out));rintro e w21 ⟨rfl,hi,hb,hk⟩;have n0_:=Aside0.mk (KeepBut.trans (by repeat (first|(with_reducible first|exact HK.out|apply KeepBut.set_|apply keep_drewN|apply keep_drew|apply keep_alloc)|exact HK.out)) hk (.inl rfl));have n1_:=Aside0.mk (hb);have n2_:=Aside0.mk (hi);clear HK;clear HB;clear HI0;have HK:=n0_;have HB:=n1_;have HI0:=n2_;clear n0_ n1_ n2_;(try clear hb);(try clear hb2);(try clear hk);(try clear hi);obtain ⟨HGz22,hgz22⟩:=HI0.out;have hcz22_0:=cellS102_0 HGz22;have hcz22_1:=cellS102_1 HGz22;have hcz22_2:=cellS102_2 HGz22;have hfz22_0:=blk_frozen HGz22 0;have hfz22_1:=blk_frozen HGz22 1;have hfz22_2:=blk_frozen HGz22 2;clear HGz22 hgz22));(repeat (go_quiet (first|(go_at_call 74;(with_reducible refine (code_Reader_off.calls g s0_0 s0_1 s0_2 false t260 t261 t262 w0 _ ?side1 ?side2 A3.out).mono ?_);(case side1=>repeat (first|(with_reducible first|exact HI0.out|apply IsS102.alloc|apply IsS102.drewN|apply IsS102.drew|apply IsS102.set_0|apply IsS102.set_1|apply IsS102.set_2)|exact HI0.out));(case side2=>repeat (first|(with_reducible first|exact HB.out|apply bal|apply bdN|apply bd1|refine below_set ?_ (IsS102.ge HI0.out))|exact HB.out));rintro e w20 ⟨rfl,hi,hb,hk⟩;have n0_:=Aside0.mk (KeepBut.trans (by repeat (first|(with_reducible first|exact HK.out|apply KeepBut.set_|apply keep_drewN|apply keep_drew|apply keep_alloc)|exact HK.out)) hk (.inl rfl));have n1_:=Aside0.mk (hb);have n2_:=Aside0.mk (hi);clear HK;clear HB;clear HI0;have HK:=n0_;have HB:=n1_;have HI0:=n2_;clear n0_ n1_ n2_;(try clear hb);(try clear hb2);(try clear hk);(try clear hi))|(go_at_call 59;(with_reducible refine (code_Reader_Left.calls g t260 t261 t262 t266 t267 t268 t269 w0 _ ?side1 ?side2 A10.out).mono ?_);(case side1=>repeat (first|(with_reducible first|exact HI0.out|apply IsS102.alloc|apply IsS102.drewN|apply IsS102.drew|apply IsS102.set_0|apply IsS102.set_1|apply IsS102.set_2)|exact HI0.out));(case side2=>repeat (first|(with_reducible first|exact HB.out|apply bal|apply bdN|apply bd1|refine below_set ?_ (IsS102.ge HI0.out))|exact HB.out));rintro e w21 ⟨rfl,hi,hb,hk⟩;have n0_:=Aside0.mk (KeepBut.trans (by repeat (first|(with_reducible first|exact HK.out|apply KeepBut.set_|apply keep_drewN|apply keep_drew|apply keep_alloc)|exact HK.out)) hk (.inl rfl));have n1_:=Aside0.mk (hb);have n2_:=Aside0.mk (hi);clear HK;clear HB;clear HI0;have HK:=n0_;have HB:=n1_;have HI0:=n2_;clear n0_ n1_ n2_;(try clear hb);(try clear hb2);(try clear hk);(try clear hi);obtain ⟨HGz22,hgz22⟩:=HI0.out;have hcz22_0:=cellS102_0 HGz22;have hcz22_1:=cellS102_1 HGz22;have hcz22_2:=cellS102_2 HGz22;have hfz22_0:=blk_frozen HGz22 0;have hfz22_1:=blk_frozen HGz22 1;have hfz22_2:=blk_frozen HGz22 2;clear HGz22 hgz22));try go_wp2_with (first|(go_at_call 74;(with_reducible refine (code_Reader_off.calls g s0_0 s0_1 s0_2 false t260 t261 t262 w0 _ ?side1 ?side2 A3.out).mono ?_);(case side1=>repeat (first|(with_reducible first|exact HI0.out|apply IsS102.alloc|apply IsS102.drewN|apply IsS102.drew|apply IsS102.set_0|apply IsS102.set_1|apply IsS102.set_2)|exact HI0.out));(case side2=>repeat (first|(with_reducible first|exact HB.out|apply bal|apply bdN|apply bd1|refine below_set ?_ (IsS102.ge HI0.out))|exact HB.out));rintro e w20 ⟨rfl,hi,hb,hk⟩;have n0_:=Aside0.mk (KeepBut.trans (by repeat (first|(with_reducible first|exact HK.out|apply KeepBut.set_|apply keep_drewN|apply keep_drew|apply keep_alloc)|exact HK.out)) hk (.inl rfl));have n1_:=Aside0.mk (hb);have n2_:=Aside0.mk (hi);clear HK;clear HB;clear HI0;have HK:=n0_;have HB:=n1_;have HI0:=n2_;clear n0_ n1_ n2_;(try clear hb);(try clear hb2);(try clear hk);(try clear hi))|(go_at_call 59;(with_reducible refine (code_Reader_Left.calls g t260 t261 t262 t266 t267 t268 t269 w0 _ ?side1 ?side2 A10.out).mono ?_);(case side1=>repeat (first|(with_reducible first|exact HI0.out|apply IsS102.alloc|apply IsS102.drewN|apply IsS102.drew|apply IsS102.set_0|apply IsS102.set_1|apply IsS102.set_2)|exact HI0.out));(case side2=>repeat (first|(with_reducible first|exact HB.out|apply bal|apply bdN|apply bd1|refine below_set ?_ (IsS102.ge HI0.out))|exact HB.out));rintro e w21 ⟨rfl,hi,hb,hk⟩;have n0_:=Aside0.mk (KeepBut.trans (by repeat (first|(with_reducible first|exact HK.out|apply KeepBut.set_|apply keep_drewN|apply keep_drew|apply keep_alloc)|exact HK.out)) hk (.inl rfl));have n1_:=Aside0.mk (hb);have n2_:=Aside0.mk (hi);clear HK;clear HB;clear HI0;have HK:=n0_;have HB:=n1_;have HI0:=n2_;clear n0_ n1_ n2_;(try clear hb);(try clear hb2);(try clear hk);(try clear hi);obtain ⟨HGz22,hgz22⟩:=HI0.out;have hcz22_0:=cellS102_0 HGz22;have hcz22_1:=cellS102_1 HGz22;have hcz22_2:=cellS102_2 HGz22;have hfz22_0:=blk_frozen HGz22 0;have hfz22_1:=blk_frozen HGz22 1;have hfz22_2:=blk_frozen HGz22 2;clear HGz22 hgz22))));go_ret;exact ⟨by first|rfl|(simp [errW_none,errW_some] <;> rfl)|(simp only [← hji16];first|rfl|(simp [errW_none,errW_some] <;> rfl))|(simp [*,errW_none,errW_some] <;> rfl),by repeat (first|(with_reducible first|exact HI0.out|apply IsS102.alloc|apply IsS102.drewN|apply IsS102.drew|apply IsS102.set_0|apply IsS102.set_1|apply IsS102.set_2)|exact HI0.out),by repeat (first|(with_reducible first|exact HB.out|apply bal|apply bdN|apply bd1|refine below_set ?_ (IsS102.ge HI0.out))|exact HB.out),by repeat (first|(with_reducible first|exact HK.out|apply KeepBut.set_|apply keep_drewN|apply keep_drew|apply keep_alloc)|exact HK.out)⟩
      ·rw [if_neg c19] at H;exact absurd H (by simp)
     ·rw [if_neg c18] at H;exact absurd H (by simp)
    ·rw [if_neg c17] at H;exact absurd H (by simp)
def code_Reader_Text.f (k:Nat) (s0_0:ByteArray) (s0_1:Int) (s0_2:Int) (a1:Int):Option (ByteArray × ByteArray × Int × Int):=(code_Reader_Count.f k s0_0 s0_1 s0_2 a1).bind fun bt273=>((code_Reader_Raw.f bt273.2.1 bt273.2.2.1 bt273.2.2.2 bt273.1).bind fun bt277=>(some (bt277.1,bt277.2.1,bt277.2.2.1,bt277.2.2.2)))
set_option maxHeartbeats 8000000 in
set_option maxRecDepth 100000 in
theorem code_Reader_Text.calls (k:Nat) (g:Nat) (s0_0:ByteArray) (s0_1:Int) (s0_2:Int) (a1:Int) (r1:ByteArray) (r2:ByteArray) (r3:Int) (r4:Int) (w0 w:World) (hI:IsS102 w0 w g s0_0 s0_1 s0_2) (hB:Below w0.heap.size w0 w) (h:code_Reader_Text.f k s0_0 s0_1 s0_2 a1=some (r1,r2,r3,r4)) :
  Calls Tryd.prog 56 #[.pointer (some ⟨g,0,none⟩),.int .i64 a1] w fun e w'=>e=.returned (.string r1)∧IsS102 w0 w' g r2 r3 r4∧Below w0.heap.size w0 w'∧KeepBut w w' g none:=by
 have HI0:=Aside0.mk hI;have HK:=Aside0.mk (KeepBut.refl w g none);have HL:=Aside0.mk hB.size;clear hI;have HW0:=Aside0.mk hB.size;have HB:=Aside0.mk hB;clear hB;have H:((code_Reader_Count.f k s0_0 s0_1 s0_2 a1).bind fun bt273=>((code_Reader_Raw.f bt273.2.1 bt273.2.2.1 bt273.2.2.2 bt273.1).bind fun bt277=>(some (bt277.1,bt277.2.1,bt277.2.2.1,bt277.2.2.2))))=some (r1,r2,r3,r4):=h;clear h;replace H:=Option.bind_eq_some_iff.mp H;obtain ⟨⟨t273,t274,t275,t276⟩,A30,H⟩:=H;replace H:((code_Reader_Raw.f t274 t275 t276 t273).bind fun bt277=>(some (bt277.1,bt277.2.1,bt277.2.2.1,bt277.2.2.2)))=some (r1,r2,r3,r4):=H;have A3:=Aside0.mk A30;clear A30;replace H:=Option.bind_eq_some_iff.mp H;obtain ⟨⟨t277,t278,t279,t280⟩,A40,H⟩:=H;replace H:(some (t277,t278,t279,t280))=some (r1,r2,r3,r4):=H;have A4:=Aside0.mk A40;clear A40;simp only [Option.some.injEq,Prod.mk.injEq] at H;obtain ⟨rfl,rfl,rfl,rfl⟩:=H;go_enter Tryd.func56,Tryd.ntmps56;go_wp2_with (first|((with_reducible refine gate_callee (f:=55) rfl ?_);refine goesL_ (some 8) rfl rfl Tryd.func55 (by kernel_rfl) rfl #[.pointer (some ⟨g,0,none⟩),.int .i64 a1] rfl (by (try simp only [List.map_toArray,List.map_cons,List.map_nil]);first|done|rfl|(simp only [List.length_drop,List.length_take];rfl)) ?_;(with_reducible refine (code_Reader_Count.calls k g s0_0 s0_1 s0_2 a1 t273 t274 t275 t276 w0 _ ?side1 ?side2 A3.out).mono ?_);(case side1=>repeat (first|(with_reducible first|exact HI0.out|apply IsS102.alloc|apply IsS102.drewN|apply IsS102.drew|apply IsS102.set_0|apply IsS102.set_1|apply IsS102.set_2)|exact HI0.out));(case side2=>repeat (first|(with_reducible first|exact HB.out|apply bal|apply bdN|apply bd1|refine below_set ?_ (IsS102.ge HI0.out))|exact HB.out));rintro e w5 ⟨rfl,hi,hb,hk⟩;refine ⟨_,rfl,?_⟩;have n0_:=Aside0.mk (KeepBut.trans (by repeat (first|(with_reducible first|exact HK.out|apply KeepBut.set_|apply keep_drewN|apply keep_drew|apply keep_alloc)|exact HK.out)) hk (.inl rfl));have n1_:=Aside0.mk (hb);have n2_:=Aside0.mk (hi);clear HK;clear HB;clear HI0;have HK:=n0_;have HB:=n1_;have HI0:=n2_;clear n0_ n1_ n2_;(try clear hb);(try clear hb2);(try clear hk);(try clear hi))|((with_reducible refine gate_callee (f:=76) rfl ?_);refine goesL_ (some 9) rfl rfl Tryd.func76 (by kernel_rfl) rfl #[.pointer (some ⟨g,0,none⟩),.int .i64 t273] rfl (by (try simp only [List.map_toArray,List.map_cons,List.map_nil]);first|done|rfl|(simp only [List.length_drop,List.length_take];rfl)) ?_;(with_reducible refine (code_Reader_Raw.calls g t274 t275 t276 t273 t277 t278 t279 t280 w0 _ ?side1 ?side2 A4.out).mono ?_);(case side1=>repeat (first|(with_reducible first|exact HI0.out|apply IsS102.alloc|apply IsS102.drewN|apply IsS102.drew|apply IsS102.set_0|apply IsS102.set_1|apply IsS102.set_2)|exact HI0.out));(case side2=>repeat (first|(with_reducible first|exact HB.out|apply bal|apply bdN|apply bd1|refine below_set ?_ (IsS102.ge HI0.out))|exact HB.out));rintro e w6 ⟨rfl,hi,hb,hk⟩;refine ⟨_,rfl,?_⟩;have n0_:=Aside0.mk (KeepBut.trans (by repeat (first|(with_reducible first|exact HK.out|apply KeepBut.set_|apply keep_drewN|apply keep_drew|apply keep_alloc)|exact HK.out)) hk (.inl rfl));have n1_:=Aside0.mk (hb);have n2_:=Aside0.mk (hi);clear HK;clear HB;clear HI0;have HK:=n0_;have HB:=n1_;have HI0:=n2_;clear n0_ n1_ n2_;(try clear hb);(try clear hb2);(try clear hk);(try clear hi)));go_ret;exact ⟨by first|rfl|(simp [errW_none,errW_some] <;> rfl)|(simp [*,errW_none,errW_some] <;> rfl),by repeat (first|(with_reducible first|exact HI0.out|apply IsS102.alloc|apply IsS102.drewN|apply IsS102.drew|apply IsS102.set_0|apply IsS102.set_1|apply IsS102.set_2)|exact HI0.out),by repeat (first|(with_reducible first|exact HB.out|apply bal|apply bdN|apply bd1|refine below_set ?_ (IsS102.ge HI0.out))|exact HB.out),by repeat (first|(with_reducible first|exact HK.out|apply KeepBut.set_|apply keep_drewN|apply keep_drew|apply keep_alloc)|exact HK.out)⟩
end Go.Proofs.YtmeofdpmddjbgaaDoor.G
end
section
namespace Go.Proofs.YtmeofdpmddjbgaaDoor.G
open Go.RowKit Go.Proofs.YtmeofdpmddjbgaaDoorW.PrintWords Go.Proofs.YtmeofdpmddjbgaaDoorW.PrintLast Go.Proofs.YtmeofdpmddjbgaaDoorW.PrintMore
set_option linter.unusedVariables false
set_option linter.unusedSimpArgs false
theorem bt_byte_ (s:ByteArray) (i:Int):∃ b:Nat,bt s i=(b:Int)∧b≤255:=by
 have:=bt_range s i
 exact ⟨(bt s i).toNat,by omega,by omega⟩
theorem pw_bound_ (i b:Nat) (hi:i≤8) (h8:i=8→b % 128≤63):b % 128 * 128 ^ i < 9223372036854775808:=by
 obtain ⟨P,hP⟩:∃ P,128 ^ i=P:=⟨_,rfl⟩
 rw [hP]
 have hx:b % 128 * P≤127 * P:=Nat.mul_le_mul_right _ (by omega)
 have hP8:P≤72057594037927936:=by rw [← hP];exact Nat.le_trans (Nat.pow_le_pow_right (by decide) hi) (by decide)
 by_cases e8:i=8
 ·have h63:b % 128 * P≤63 * P:=Nat.mul_le_mul_right _ (h8 e8)
  omega
 ·have hP7:P≤562949953421312:=by rw [← hP];exact Nat.le_trans (Nat.pow_le_pow_right (by decide) (by omega:i≤7)) (by decide)
  omega
theorem pw_next_ (i n b:Nat) (hn:n < 128 ^ i):n + b % 128 * 128 ^ i < 128 ^ (i + 1):=by
 obtain ⟨P,hP⟩:∃ P,128 ^ i=P:=⟨_,rfl⟩
 rw [Nat.pow_succ,hP]
 rw [hP] at hn
 have hx:b % 128 * P≤127 * P:=Nat.mul_le_mul_right _ (by omega)
 omega
theorem codebyte_ (s:ByteArray) (hs:s.size≤140737488351232) (at_:Nat) (h:at_≤s.size):code_Reader_Byte.f s (at_:Int) 0=if at_ < s.size then some (bt s (at_:Int),s,((at_ + 1:Nat):Int),0) else some (0,s,(at_:Int),3):=by
 unfold code_Reader_Byte.f code_Reader_off.f
 have z:((0:Int) != 0)=false:=rfl
 simp only [Option.bind_some,z,Bool.false_eq_true,↓reduceIte]
 by_cases c:at_ < s.size
 ·have c1:¬ (at_:Int)=(s.size:Int):=by omega
  have w1:wrap64 ((at_:Int) + 1)=((at_ + 1:Nat):Int):=by rw [w64_ (by omega) (by omega)];omega
  have w2:wrap64 (((at_ + 1:Nat):Int) - 1)=(at_:Int):=by rw [w64_ (by omega) (by omega)];omega
  have c2:(0:Int)≤(at_:Int):=Int.natCast_nonneg _
  have c3:(at_:Int) < (s.size:Int):=by omega
  have w3:wrap64 (bt s (at_:Int))=bt s (at_:Int):=by
   have:=bt_range s (at_:Int)
   rw [w64_ (by omega) (by omega)]
  simp only [c1,w1,w2,w3,c2,c3,c,↓reduceIte]
 ·have c1:(at_:Int)=(s.size:Int):=by omega
  unfold code_Reader_fail.f code_Reader_off.f
  simp only [c1,c,Option.bind_some,z,Bool.false_eq_true,↓reduceIte]
theorem codenum_l0 (s:ByteArray) (hs:s.size≤140737488351232):∀ (d i n at_:Nat),9 - i=d→i≤8→n < 128 ^ i→at_≤s.size →
  Ev (fun k=>code_Reader_Num.l0 k (n:Int) (i:Int) s (at_:Int) 0) ((numGo s d i n at_).1,s,((numGo s d i n at_).2.1:Int),(numGo s d i n at_).2.2):=by
 intro d
 induction d with
 | zero=>intro i n at_ hd hi hn ha;omega
 | succ d ih =>
  intro i n at_ hd hi hn ha
  have z:((0:Int) != 0)=false:=rfl
  have z3:((3:Int) != 0)=true:=rfl
  apply Ev.step
  ·intro k;rw [code_Reader_Num.l0]
  rw [codebyte_ s hs at_ ha]
  unfold numGo
  by_cases c:at_ < s.size
  ·obtain ⟨b,hb,hb5⟩:=bt_byte_ s (at_:Int)
   simp only [c,↓reduceIte,Option.bind_some,code_Reader_off.f,z,Bool.false_eq_true]
   rw [hb]
   simp only [Int.toNat_natCast]
   have hj2:∀ t:Bool,t=decide ((i=8∧63 < b)∨(0 < i∧b=0))→Ev (fun k=>code_Reader_Num.j2 k (n:Int) (i:Int) (b:Int) t s ((at_ + 1:Nat):Int) 0) ((if (i=8∧63 < b)∨(0 < i∧b=0) then ((0:Int),at_ + 1,(5:Int)) else if b < 128 then (((n + b % 128 * 128 ^ i:Nat):Int),at_ + 1,0) else numGo s d (i + 1) (n + b % 128 * 128 ^ i) (at_ + 1)).1,s,(((if (i=8∧63 < b)∨(0 < i∧b=0) then ((0:Int),at_ + 1,(5:Int)) else if b < 128 then (((n + b % 128 * 128 ^ i:Nat):Int),at_ + 1,0) else numGo s d (i + 1) (n + b % 128 * 128 ^ i) (at_ + 1)).2.1:Nat):Int),(if (i=8∧63 < b)∨(0 < i∧b=0) then ((0:Int),at_ + 1,(5:Int)) else if b < 128 then (((n + b % 128 * 128 ^ i:Nat):Int),at_ + 1,0) else numGo s d (i + 1) (n + b % 128 * 128 ^ i) (at_ + 1)).2.2):=by
    intro t ht
    apply Ev.step
    ·intro k;rw [code_Reader_Num.j2]
    cases t with
    | true =>
     have g:=of_decide_eq_true ht.symm
     simp only [g,↓reduceIte,code_Reader_fail.f,code_Reader_off.f,Option.bind_some,z,Bool.false_eq_true]
     exact Ev.now _
    | false =>
     have g:=of_decide_eq_false ht.symm
     have q1:7 * i≤56:=by omega
     have q2:i=8→b % 128≤63:=by omega
     have q3:¬ b < 128→9 - (i + 1)=d∧i + 1≤8:=by omega
     have q4:at_ + 1≤s.size:=by omega
     have w1:wrap64 (7 * (i:Int))=((7 * i:Nat):Int):=by rw [w64_ (by omega) (by omega)];omega
     have w2:wrap64 ((i:Int) + 1)=((i + 1:Nat):Int):=by clear w1;rw [w64_ (by omega) (by omega)];omega
     have w3:(0:Int)≤((7 * i:Nat):Int):=Int.natCast_nonneg _
     have w4:Go.bits .and .i64 (b:Int) 127=((b % 128:Nat):Int):=by clear w1 w2;rw [Go.i64_and127];omega
     have w5:Go.bits .or .i64 (n:Int) (shl .i64 ((b % 128:Nat):Int) ((7 * i:Nat):Int))=((n + b % 128 * 128 ^ i:Nat):Int):=or_shl_ (7 * i) (128 ^ i) n (b % 128) (pow7_ i) q1 hn (pw_bound_ i b hi q2)
     simp only [g,Bool.false_eq_true,↓reduceIte,w1,w2,w3,w4,w5]
     by_cases c2:b < 128
     ·have c3:(b:Int) < 128:=by clear w1 w2 w3 w4 w5;omega
      simp only [c2,c3,↓reduceIte]
      exact Ev.now _
     ·have c3:¬ (b:Int) < 128:=by clear w1 w2 w3 w4 w5;omega
      simp only [c2,c3,↓reduceIte]
      exact ih (i + 1) (n + b % 128 * 128 ^ i) (at_ + 1) (q3 c2).1 (q3 c2).2 (pw_next_ i n b hn) q4
   have hj1:∀ t:Bool,t=decide (i=8∧63 < b)→Ev (fun k=>code_Reader_Num.j1 k (n:Int) (i:Int) (b:Int) t s ((at_ + 1:Nat):Int) 0) ((if (i=8∧63 < b)∨(0 < i∧b=0) then ((0:Int),at_ + 1,(5:Int)) else if b < 128 then (((n + b % 128 * 128 ^ i:Nat):Int),at_ + 1,0) else numGo s d (i + 1) (n + b % 128 * 128 ^ i) (at_ + 1)).1,s,(((if (i=8∧63 < b)∨(0 < i∧b=0) then ((0:Int),at_ + 1,(5:Int)) else if b < 128 then (((n + b % 128 * 128 ^ i:Nat):Int),at_ + 1,0) else numGo s d (i + 1) (n + b % 128 * 128 ^ i) (at_ + 1)).2.1:Nat):Int),(if (i=8∧63 < b)∨(0 < i∧b=0) then ((0:Int),at_ + 1,(5:Int)) else if b < 128 then (((n + b % 128 * 128 ^ i:Nat):Int),at_ + 1,0) else numGo s d (i + 1) (n + b % 128 * 128 ^ i) (at_ + 1)).2.2):=by
    intro t ht
    apply Ev.step
    ·intro k;rw [code_Reader_Num.j1]
    cases t with
    | true =>
     have g:=of_decide_eq_true ht.symm
     simp only [↓reduceIte]
     exact hj2 true (by simp [g])
    | false =>
     have g:=of_decide_eq_false ht.symm
     simp only [Bool.false_eq_true,↓reduceIte]
     by_cases c4:0 < i
     ·have c5:(i:Int) > 0:=by omega
      simp only [c5,↓reduceIte]
      refine hj2 _ ?_
      by_cases c6:b=0
      ·subst c6;simp [c4]
      ·have:((b:Int) == 0)=false:=by simp;omega
       rw [this]
       simp [g,c6]
     ·have c5:¬ (i:Int) > 0:=by omega
      simp only [c5,↓reduceIte]
      refine hj2 false ?_
      simp [g,c4]
   by_cases c8:i=8
   ·have c9:(i:Int)=8:=by omega
    have hd8:decide ((b:Int) > 63)=decide (i=8∧63 < b):=by
     by_cases q:63 < b
     ·have:(b:Int) > 63:=by omega
      simp [this,c8,q]
     ·have:¬ (b:Int) > 63:=by omega
      simp [this,q]
    have:=hj1 _ hd8
    rw [c9] at this ⊢
    simp only [↓reduceIte]
    exact this
   ·have c9:¬ (i:Int)=8:=by omega
    simp only [c9,↓reduceIte]
    exact hj1 false (by simp [c8])
  ·simp only [c,↓reduceIte,Option.bind_some,code_Reader_off.f,z3]
   exact Ev.now _
theorem codenum_ev (s:ByteArray) (hs:s.size≤140737488351232) (at_:Nat) (e:Int) (ha:at_≤s.size):Ev (fun k=>code_Reader_Num.f k s (at_:Int) e) ((numS s at_ e).1,s,((numS s at_ e).2.1:Int),(numS s at_ e).2.2):=by
 unfold code_Reader_Num.f numS
 by_cases c:e=0
 ·subst c
  simp only [↓reduceIte]
  exact codenum_l0 s hs 9 0 0 at_ rfl (by decide) (by decide) ha
 ·have z:(e != 0)=true:=by simp [c]
  simp only [c,↓reduceIte]
  apply Ev.step
  ·intro k;rw [code_Reader_Num.l0]
  simp only [code_Reader_Byte.f,code_Reader_off.f,Option.bind_some,z,↓reduceIte]
  exact Ev.now _
theorem codecount_ev (s:ByteArray) (hs:s.size≤140737488351232) (at_:Nat) (e most:Int) (ha:at_≤s.size):Ev (fun k=>code_Reader_Count.f k s (at_:Int) e most) ((countS s at_ e most).1,s,((countS s at_ e most).2.1:Int),(countS s at_ e most).2.2):=by
 unfold code_Reader_Count.f countS
 refine Ev.bind (codenum_ev s hs at_ e ha) ?_
 obtain ⟨r,hr⟩:∃ r,numS s at_ e=r:=⟨_,rfl⟩
 rw [hr]
 simp only [code_Reader_off.f,Option.bind_some]
 by_cases c:r.2.2=0
 ·have z:(r.2.2 != 0)=false:=by simp [c]
  simp only [z,c,true_and,Bool.false_eq_true,↓reduceIte]
  by_cases c1:most < r.1
  ·have c2:r.1 > most:=c1
   have z0:((0:Int) != 0)=false:=rfl
   simp only [c1,c2,↓reduceIte,code_Reader_fail.f,code_Reader_off.f,Option.bind_some,z0,Bool.false_eq_true]
   exact Ev.now _
  ·have c2:¬ r.1 > most:=c1
   simp only [c1,c2,↓reduceIte,c]
   exact Ev.now _
 ·have z:(r.2.2 != 0)=true:=by simp [c]
  simp only [z,c,false_and,↓reduceIte]
  exact Ev.now _
theorem coderaw_f (s:ByteArray) (hs:s.size≤140737488351232) (at_:Nat) (e n:Int) (ha:at_≤s.size) (hn : -9223372036854775808≤n∧n≤4611686018427387903):code_Reader_Raw.f s (at_:Int) e n=some ((rawS s at_ e n).1,s,((rawS s at_ e n).2.1:Int),(rawS s at_ e n).2.2):=by
 unfold code_Reader_Raw.f rawS
 simp only [code_Reader_off.f,Option.bind_some]
 by_cases c:e=0
 ·subst c
  have z:((0:Int) != 0)=false:=rfl
  simp only [z,Bool.false_eq_true,↓reduceIte]
  by_cases c1:n < 0
  ·simp only [c1,↓reduceIte,code_Reader_fail.f,code_Reader_off.f,Option.bind_some,z,Bool.false_eq_true]
  ·simp only [c1,↓reduceIte,code_Reader_Left.f,Option.bind_some]
   have w0:wrap64 ((s.size:Int) - (at_:Int))=(s.size:Int) - at_:=by rw [w64_ (by omega) (by omega)]
   rw [w0]
   by_cases c2:(s.size:Int) - at_ < n
   ·have c3:n > (s.size:Int) - at_:=c2
    simp only [c2,c3,↓reduceIte,code_Reader_fail.f,code_Reader_off.f,Option.bind_some,z,Bool.false_eq_true]
   ·have c3:¬ n > (s.size:Int) - at_:=c2
    have w1:wrap64 ((at_:Int) + n)=((at_ + n.toNat:Nat):Int):=by rw [w64_ (by omega) (by omega)];omega
    have w2:wrap64 (((at_ + n.toNat:Nat):Int) - n)=(at_:Int):=by clear w1 w0;rw [w64_ (by omega) (by omega)];omega
    have c4:(0:Int)≤(at_:Int):=Int.natCast_nonneg _
    have c5:(at_:Int)≤((at_ + n.toNat:Nat):Int):=by clear w1 w2 w0;omega
    have c6:((at_ + n.toNat:Nat):Int)≤(s.size:Int):=by clear w1 w2 w0;omega
    simp only [c2,c3,w1,w2,c4,c5,c6,↓reduceIte,Int.toNat_natCast]
 ·have z:(e != 0)=true:=by simp [c]
  simp only [z,c,↓reduceIte]
theorem codetext_ev (s:ByteArray) (hs:s.size≤140737488351232) (at_:Nat) (e most:Int) (ha:at_≤s.size):Ev (fun k=>code_Reader_Text.f k s (at_:Int) e most) ((textS s at_ e most).1,s,((textS s at_ e most).2.1:Int),(textS s at_ e most).2.2):=by
 unfold code_Reader_Text.f textS
 have hc:=countS_at s at_ e most ha
 have hr:=countS_range s at_ e most
 refine Ev.bind (codecount_ev s hs at_ e most ha) ?_
 simp only [coderaw_f s hs _ _ _ hc.2 ⟨Int.le_trans (by decide) hr.1,hr.2⟩,Option.bind_some]
 exact Ev.now _
end Go.Proofs.YtmeofdpmddjbgaaDoor.G
end
section
namespace Go.Proofs.YtmeofdpmddjbgaaDoor.G
open Go.RowKit Go.Proofs.YtmeofdpmddjbgaaDoorW.PrintWords Go.Proofs.YtmeofdpmddjbgaaDoorW.PrintLast Go.Proofs.YtmeofdpmddjbgaaDoorW.PrintMore
attribute [local go_sem] max2_int min2_int max_two min_two max_three min_three max_four min_four   
set_option linter.unusedVariables false
set_option linter.unusedSimpArgs false

def IsS90 (w0 W:World) (g:Nat) (f0:ByteArray) (f1:Int) (f2:Int):Prop:=W.heap[g]?=some (.cells #[.string f0,.int .i64 f1,.int .i64 f2] 90 (0,0))∧w0.heap.size≤g
theorem IsS90.grown {w0 W:World} {g:Nat} {f0:ByteArray} {f1:Int} {f2:Int} {W1:World} {row:Option Nat} (h:IsS90 w0 W g f0 f1 f2) (hw:W.grownBy W1 row) (hne:some g ≠ row):IsS90 w0 W1 g f0 f1 f2:=by
 obtain ⟨hb,hg⟩:=h
 exact ⟨blk_grown hb hw hne,hg⟩
theorem IsS90.kept {w0 W:World} {g:Nat} {f0:ByteArray} {f1:Int} {f2:Int} {W1:World} {S:Nat→Prop} (h:IsS90 w0 W g f0 f1 f2) (hk:Kept W W1 S) (hne:¬ S g):IsS90 w0 W1 g f0 f1 f2:=by
 obtain ⟨hb,hg⟩:=h
 exact ⟨blk_kept hb hk hne,hg⟩
theorem IsS90.below {w0 W:World} {g:Nat} {f0:ByteArray} {f1:Int} {f2:Int} {W1:World} (h:IsS90 w0 W g f0 f1 f2) (hw:Below W.heap.size W W1):IsS90 w0 W1 g f0 f1 f2:=h.grown (grown_of_below hw none) (by simp)
theorem IsS90.alloc {w0 W:World} {g:Nat} {f0:ByteArray} {f1:Int} {f2:Int} (h:IsS90 w0 W g f0 f1 f2) (o:Obj):IsS90 w0 (W.alloc o) g f0 f1 f2:=h.below (bal (Below.refl _ _) o)
theorem IsS90.drewN {w0 W:World} {g:Nat} {f0:ByteArray} {f1:Int} {f2:Int} (h:IsS90 w0 W g f0 f1 f2) (m:Nat):IsS90 w0 (W.drewN m) g f0 f1 f2:=h
theorem IsS90.drew {w0 W:World} {g:Nat} {f0:ByteArray} {f1:Int} {f2:Int} (h:IsS90 w0 W g f0 f1 f2):IsS90 w0 W.drew g f0 f1 f2:=h
theorem IsS90.at_ {w0 W:World} {g:Nat} {f0:ByteArray} {f1:Int} {f2:Int} {w':World} {m:Nat} (hq:W.drewN m=w') (h:IsS90 w0 W g f0 f1 f2):IsS90 w0 w' g f0 f1 f2:=by subst hq;exact IsS90.drewN h m
theorem IsS90.apart {w0 W:World} {g:Nat} {f0:ByteArray} {f1:Int} {f2:Int} {α:Type} {d:Kd α} {e:Nat} {base:Nat} {ok:Nat→Prop} {v:Value} {xs:List α} (h:IsS90 w0 W g f0 f1 f2) (ho:d.R e W base ok v xs) (ht:∀ q,q ∈ e :: d.E→q ≠ 90):d.R e W base (fun k=>ok k∧k ≠ g) v xs:=by
 obtain ⟨hb,hg⟩:=h
 exact Kd.R_types ho hb ht
theorem IsS90.own_ne {w0 W:World} {g:Nat} {f0:ByteArray} {f1:Int} {f2:Int} {α:Type} {d:Kd α} {e:Nat} {base:Nat} {ok:Nat→Prop} {v:Value} {xs:List α} (h:IsS90 w0 W g f0 f1 f2) (ho:d.R e W base ok v xs) (ht:e ≠ 90):some g ≠ v.ownBlock:=by
 obtain ⟨hb,hg⟩:=h
 exact Kd.R_ne ho hb ht
theorem IsS90.lt {w0 W:World} {g:Nat} {f0:ByteArray} {f1:Int} {f2:Int} (h:IsS90 w0 W g f0 f1 f2):g < W.heap.size:=by
 obtain ⟨hb,hg⟩:=h
 exact blk_lt hb
theorem IsS90.ge {w0 W:World} {g:Nat} {f0:ByteArray} {f1:Int} {f2:Int} (h:IsS90 w0 W g f0 f1 f2):w0.heap.size≤g:=by
 obtain ⟨hb,hg⟩:=h
 exact hg
theorem IsS90.ne_blk {w0 W:World} {g:Nat} {f0:ByteArray} {f1:Int} {f2:Int} {a:Nat} {cs:Array Value} {t:TypeId} {fr:Nat × Nat} (h:IsS90 w0 W g f0 f1 f2) (hb2:W.heap[a]?=some (.cells cs t fr)) (ht:t ≠ 90):g ≠ a:=by
 obtain ⟨hb,hg⟩:=h
 rintro rfl
 rw [hb] at hb2
 injection hb2 with hb2
 injection hb2 with _ ht2
 exact ht ht2.symm
theorem IsS90.far {w0 W:World} {g:Nat} {f0:ByteArray} {f1:Int} {f2:Int} {p:Addr} (h:IsS90 w0 W g f0 f1 f2) (hne:g ≠ p.block) (u:Value):IsS90 w0 (W.setCell p u) g f0 f1 f2:=by
 obtain ⟨hb,hg⟩:=h
 exact ⟨blk_far hb hne u,hg⟩
theorem cellS90_0 {W:World} {g:Nat} {f0:ByteArray} {f1:Int} {f2:Int} (h:W.heap[g]?=some (.cells #[.string f0,.int .i64 f1,.int .i64 f2] 90 (0,0))):W.cell? ⟨g,0,none⟩=some (.string f0):=(blk_cell h 0).trans rfl
theorem IsS90.set_0 {w0 W:World} {g:Nat} {f0:ByteArray} {f1:Int} {f2:Int} (h:IsS90 w0 W g f0 f1 f2) (x:ByteArray):IsS90 w0 (W.setCell ⟨g,0,none⟩ (.string x)) g x f1 f2:=by
 obtain ⟨hb,hg⟩:=h
 exact ⟨by simpa using blk_set hb 0 (.string x),hg⟩
theorem cellS90_1 {W:World} {g:Nat} {f0:ByteArray} {f1:Int} {f2:Int} (h:W.heap[g]?=some (.cells #[.string f0,.int .i64 f1,.int .i64 f2] 90 (0,0))):W.cell? ⟨g,1,none⟩=some (.int .i64 f1):=(blk_cell h 1).trans rfl
theorem IsS90.set_1 {w0 W:World} {g:Nat} {f0:ByteArray} {f1:Int} {f2:Int} (h:IsS90 w0 W g f0 f1 f2) (x:Int):IsS90 w0 (W.setCell ⟨g,1,none⟩ (.int .i64 x)) g f0 x f2:=by
 obtain ⟨hb,hg⟩:=h
 exact ⟨by simpa using blk_set hb 1 (.int .i64 x),hg⟩
theorem cellS90_2 {W:World} {g:Nat} {f0:ByteArray} {f1:Int} {f2:Int} (h:W.heap[g]?=some (.cells #[.string f0,.int .i64 f1,.int .i64 f2] 90 (0,0))):W.cell? ⟨g,2,none⟩=some (.int .i64 f2):=(blk_cell h 2).trans rfl
theorem IsS90.set_2 {w0 W:World} {g:Nat} {f0:ByteArray} {f1:Int} {f2:Int} (h:IsS90 w0 W g f0 f1 f2) (x:Int):IsS90 w0 (W.setCell ⟨g,2,none⟩ (.int .i64 x)) g f0 f1 x:=by
 obtain ⟨hb,hg⟩:=h
 exact ⟨by simpa using blk_set hb 2 (.int .i64 x),hg⟩
theorem IsS90.new (w0 W:World) (f0:ByteArray) (f1:Int) (f2:Int) (hB:Below w0.heap.size w0 W):IsS90 w0 (W.alloc (.cells #[.string f0,.int .i64 f1,.int .i64 f2] 90)) W.heap.size f0 f1 f2:=⟨by simpa using heap_alloc_new W _,hB.size⟩
def barqueref01_Reader_Byte.f (s0_0:ByteArray) (s0_1:Int) (s0_2:Int):Option (Int × ByteArray × Int × Int):=if s0_2=0 then (if s0_1 ≥ (s0_0.size:Int) then (some (0,s0_0,s0_1,3)) else (if 0≤(wrap64 ((wrap64 (s0_1 + 1)) - 1)) then (if (wrap64 ((wrap64 (s0_1 + 1)) - 1)) < (s0_0.size:Int) then (some (wrap64 (bt s0_0 (wrap64 ((wrap64 (s0_1 + 1)) - 1))),s0_0,wrap64 (s0_1 + 1),s0_2)) else (none)) else (none))) else (some (0,s0_0,s0_1,s0_2))
set_option maxHeartbeats 8000000 in
set_option maxRecDepth 100000 in
theorem barqueref01_Reader_Byte.calls (g:Nat) (s0_0:ByteArray) (s0_1:Int) (s0_2:Int) (r1:Int) (r2:ByteArray) (r3:Int) (r4:Int) (w0 w:World) (hI:IsS90 w0 w g s0_0 s0_1 s0_2) (hB:Below w0.heap.size w0 w) (h:barqueref01_Reader_Byte.f s0_0 s0_1 s0_2=some (r1,r2,r3,r4)) :
  Calls Tryd.prog 79 #[.pointer (some ⟨g,0,none⟩)] w fun e w'=>e=.returned (.int .i64 r1)∧IsS90 w0 w' g r2 r3 r4∧Below w0.heap.size w0 w'∧KeepBut w w' g none:=by
 have HI0:=Aside0.mk hI;have HK:=Aside0.mk (KeepBut.refl w g none);have HL:=Aside0.mk hB.size;clear hI;have HW0:=Aside0.mk hB.size;have HB:=Aside0.mk hB;clear hB;have H:(if s0_2=0 then (if s0_1 ≥ (s0_0.size:Int) then (some (0,s0_0,s0_1,3)) else (if 0≤(wrap64 ((wrap64 (s0_1 + 1)) - 1)) then (if (wrap64 ((wrap64 (s0_1 + 1)) - 1)) < (s0_0.size:Int) then (some (wrap64 (bt s0_0 (wrap64 ((wrap64 (s0_1 + 1)) - 1))),s0_0,wrap64 (s0_1 + 1),s0_2)) else (none)) else (none))) else (some (0,s0_0,s0_1,s0_2)))=some (r1,r2,r3,r4):=h;clear h;by_cases c2:s0_2=0
 ·rw [if_pos c2] at H;have c2b0:(s0_2 == 0)=true:=beq_iff_eq.mpr c2;have c2b1:(s0_2 != 0)=false:=bne_eq_false_iff_eq.mpr c2;clear c2;by_cases c3:s0_1 ≥ (s0_0.size:Int)
  ·rw [if_pos c3] at H;have c3b0:decide ((s0_0.size:Int)≤s0_1)=true:=decide_eq_true c3;clear c3;simp only [Option.some.injEq,Prod.mk.injEq] at H;obtain ⟨rfl,rfl,rfl,rfl⟩:=H;obtain ⟨HGz4,hgz4⟩:=HI0.out;have hcz4_0:=cellS90_0 HGz4;have hcz4_1:=cellS90_1 HGz4;have hcz4_2:=cellS90_2 HGz4;have hfz4_0:=blk_frozen HGz4 0;have hfz4_1:=blk_frozen HGz4 1;have hfz4_2:=blk_frozen HGz4 2;clear HGz4 hgz4;go_enter Tryd.func79,Tryd.ntmps79;go_wp2;(repeat (go_quiet (fail);try go_wp2));go_ret;exact ⟨by first|rfl|(simp [errW_none,errW_some] <;> rfl)|(simp [*,errW_none,errW_some] <;> rfl),by repeat (first|(with_reducible first|exact HI0.out|apply IsS90.alloc|apply IsS90.drewN|apply IsS90.drew|apply IsS90.set_0|apply IsS90.set_1|apply IsS90.set_2)|exact HI0.out),by repeat (first|(with_reducible first|exact HB.out|apply bal|apply bdN|apply bd1|refine below_set ?_ (IsS90.ge HI0.out))|exact HB.out),by repeat (first|(with_reducible first|exact HK.out|apply KeepBut.set_|apply keep_drewN|apply keep_drew|apply keep_alloc)|exact HK.out)⟩
  ·rw [if_neg c3] at H;have c3b0:decide ((s0_0.size:Int)≤s0_1)=false:=decide_eq_false c3;clear c3;obtain ⟨ji5,hji5⟩:∃ j_:Int,(wrap64 ((wrap64 (s0_1 + 1)) - 1))=j_:=⟨_,rfl⟩;(replace H:(if 0≤(ji5) then (if (ji5) < (s0_0.size:Int) then (some (wrap64 (bt s0_0 (ji5)),s0_0,wrap64 (s0_1 + 1),s0_2)) else (none)) else (none))=some (r1,r2,r3,r4):=by first|(rw [hji5] at H;exact H)|(simp only [hji5] at H ⊢;exact H));have hji5w:(IntKind.i64.wrap ((wrap64 (s0_1 + 1)) - 1))=ji5:=(i64_w _).trans hji5;by_cases c6:0≤(ji5)
   ·rw [if_pos c6] at H;have c6b0:decide (0≤(ji5))=true:=decide_eq_true c6;clear c6;by_cases c7:(ji5) < (s0_0.size:Int)
    ·rw [if_pos c7] at H;have c7b0:decide ((ji5) < (s0_0.size:Int))=true:=decide_eq_true c7;clear c7;simp only [Option.some.injEq,Prod.mk.injEq] at H;obtain ⟨rfl,rfl,rfl,rfl⟩:=H;obtain ⟨HGz9,hgz9⟩:=HI0.out;have hcz9_0:=cellS90_0 HGz9;have hcz9_1:=cellS90_1 HGz9;have hcz9_2:=cellS90_2 HGz9;have hfz9_0:=blk_frozen HGz9 0;have hfz9_1:=blk_frozen HGz9 1;have hfz9_2:=blk_frozen HGz9 2;clear HGz9 hgz9;have p8:0≤((ji5):Int):=of_decide_eq_true (by first|(with_reducible assumption)|assumption);have q8:(ji5) < (s0_0.size:Int):=of_decide_eq_true (by first|(with_reducible assumption)|assumption);have hx8:=bt_at s0_0 (ji5);replace p8:=eq_true p8;replace q8:=eq_true q8;go_enter Tryd.func79,Tryd.ntmps79;go_wp2;(repeat (go_quiet (fail);try go_wp2));go_ret;exact ⟨by first|rfl|(simp [errW_none,errW_some] <;> rfl)|(simp only [← hji5];first|rfl|(simp [errW_none,errW_some] <;> rfl))|(simp [*,errW_none,errW_some] <;> rfl),by repeat (first|(with_reducible first|exact HI0.out|apply IsS90.alloc|apply IsS90.drewN|apply IsS90.drew|apply IsS90.set_0|apply IsS90.set_1|apply IsS90.set_2)|exact HI0.out),by repeat (first|(with_reducible first|exact HB.out|apply bal|apply bdN|apply bd1|refine below_set ?_ (IsS90.ge HI0.out))|exact HB.out),by repeat (first|(with_reducible first|exact HK.out|apply KeepBut.set_|apply keep_drewN|apply keep_drew|apply keep_alloc)|exact HK.out)⟩
    ·rw [if_neg c7] at H;exact absurd H (by simp)
   ·rw [if_neg c6] at H;exact absurd H (by simp)
 ·rw [if_neg c2] at H;have c2b0:(s0_2 == 0)=false:=beq_eq_false_iff_ne.mpr c2;have c2b1:(s0_2 != 0)=true:=bne_iff_ne.mpr c2;simp only [Option.some.injEq,Prod.mk.injEq] at H;obtain ⟨rfl,rfl,rfl,rfl⟩:=H;obtain ⟨HGz10,hgz10⟩:=HI0.out;have hcz10_0:=cellS90_0 HGz10;have hcz10_1:=cellS90_1 HGz10;have hcz10_2:=cellS90_2 HGz10;have hfz10_0:=blk_frozen HGz10 0;have hfz10_1:=blk_frozen HGz10 1;have hfz10_2:=blk_frozen HGz10 2;clear HGz10 hgz10;go_enter Tryd.func79,Tryd.ntmps79;go_wp2;(repeat (go_quiet (fail);try go_wp2));go_ret;exact ⟨by first|rfl|(simp [errW_none,errW_some] <;> rfl)|(simp [*,errW_none,errW_some] <;> rfl),by repeat (first|(with_reducible first|exact HI0.out|apply IsS90.alloc|apply IsS90.drewN|apply IsS90.drew|apply IsS90.set_0|apply IsS90.set_1|apply IsS90.set_2)|exact HI0.out),by repeat (first|(with_reducible first|exact HB.out|apply bal|apply bdN|apply bd1|refine below_set ?_ (IsS90.ge HI0.out))|exact HB.out),by repeat (first|(with_reducible first|exact HK.out|apply KeepBut.set_|apply keep_drewN|apply keep_drew|apply keep_alloc)|exact HK.out)⟩
end Go.Proofs.YtmeofdpmddjbgaaDoor.G
end
section
namespace Go.Proofs.YtmeofdpmddjbgaaDoor.G
open Go.RowKit Go.Proofs.YtmeofdpmddjbgaaDoorW.PrintWords Go.Proofs.YtmeofdpmddjbgaaDoorW.PrintLast Go.Proofs.YtmeofdpmddjbgaaDoorW.PrintMore
attribute [local go_sem] max2_int min2_int max_two min_two max_three min_three max_four min_four   
set_option linter.unusedVariables false
set_option linter.unusedSimpArgs false
mutual
def barqueref01_Reader_Num.l0:Nat→Int→Int→Int→ByteArray→Int→Int→Option (Int × ByteArray × Int × Int)
 | 0,_,_,_,_,_,_=>none
 | k + 1,x3,x4,x5,x1000,x1001,x1002=>if x5 < 9 then ((barqueref01_Reader_Byte.f x1000 x1001 x1002).bind fun bt335=>(if bt335.2.2.2=0 then (if x5 > 0 then (if bt335.1=0 then (barqueref01_Reader_Num.j1 k x3 x4 x5 bt335.1 true bt335.2.1 bt335.2.2.1 bt335.2.2.2) else (if x5=8 then (barqueref01_Reader_Num.j1 k x3 x4 x5 bt335.1 (decide (bt335.1 > 63)) bt335.2.1 bt335.2.2.1 bt335.2.2.2) else (barqueref01_Reader_Num.j1 k x3 x4 x5 bt335.1 false bt335.2.1 bt335.2.2.1 bt335.2.2.2))) else (if x5=8 then (barqueref01_Reader_Num.j1 k x3 x4 x5 bt335.1 (decide (bt335.1 > 63)) bt335.2.1 bt335.2.2.1 bt335.2.2.2) else (barqueref01_Reader_Num.j1 k x3 x4 x5 bt335.1 false bt335.2.1 bt335.2.2.1 bt335.2.2.2))) else (some (0,bt335.2.1,bt335.2.2.1,bt335.2.2.2)))) else (some (x3,x1000,x1001,x1002))
def barqueref01_Reader_Num.j1:Nat→Int→Int→Int→Int→Bool→ByteArray→Int→Int→Option (Int × ByteArray × Int × Int)
 | 0,_,_,_,_,_,_,_,_=>none
 | k + 1,x3,x4,x5,x6,x31,x1000,x1001,x1002=>if x31=true then (some (0,x1000,x1001,5)) else (if x6 < 128 then (some (wrap64 (x3 + (wrap64 ((Int.tmod x6 128) * x4))),x1000,x1001,x1002)) else (barqueref01_Reader_Num.l0 k (wrap64 (x3 + (wrap64 ((Int.tmod x6 128) * x4)))) (wrap64 (x4 * 128)) (wrap64 (x5 + 1)) x1000 x1001 x1002))
end
def barqueref01_Reader_Num.f (k:Nat) (s0_0:ByteArray) (s0_1:Int) (s0_2:Int):Option (Int × ByteArray × Int × Int):=barqueref01_Reader_Num.l0 k 0 1 0 s0_0 s0_1 s0_2
set_option maxHeartbeats 8000000 in
set_option maxRecDepth 100000 in
theorem barqueref01_Reader_Num.calls (k:Nat) (g:Nat) (s0_0:ByteArray) (s0_1:Int) (s0_2:Int) (r1:Int) (r2:ByteArray) (r3:Int) (r4:Int) (w0 w:World) (hI:IsS90 w0 w g s0_0 s0_1 s0_2) (hB:Below w0.heap.size w0 w) (h:barqueref01_Reader_Num.f k s0_0 s0_1 s0_2=some (r1,r2,r3,r4)) :
  Calls Tryd.prog 62 #[.pointer (some ⟨g,0,none⟩)] w fun e w'=>e=.returned (.int .i64 r1)∧IsS90 w0 w' g r2 r3 r4∧Below w0.heap.size w0 w'∧KeepBut w w' g none:=by
 have HI0:=Aside0.mk hI;have HK:=Aside0.mk (KeepBut.refl w g none);have HL:=Aside0.mk hB.size;clear hI;have HW0:=Aside0.mk hB.size;have HB:=Aside0.mk hB;clear hB;have H:(barqueref01_Reader_Num.l0 k 0 1 0 s0_0 s0_1 s0_2)=some (r1,r2,r3,r4):=h;clear h;have H':=Aside0.mk H;clear H;go_enter Tryd.func62,Tryd.ntmps62;go_wp2;go_loopg [3,4,5] k (fun kq v3 v4 v5 w'=>∃ (x3_1:Int) (x4_1:Int) (x5_1:Int) (x1000_1:ByteArray) (x1001_1:Int) (x1002_1:Int),v3=.int .i64 x3_1∧v4=.int .i64 x4_1∧v5=.int .i64 x5_1∧Aside0 (barqueref01_Reader_Num.l0 kq x3_1 x4_1 x5_1 x1000_1 x1001_1 x1002_1=some (r1,r2,r3,r4))∧Aside0 (kq≤k)∧Aside0 (IsS90 w0 w' g x1000_1 x1001_1 x1002_1)∧Aside0 (KeepBut w w' g none)∧Aside0 (Below w0.heap.size w0 w'))
 case atStart=>exact ⟨(0),(1),(0),(s0_0),(s0_1),(s0_2),(by first|rfl|(simp;done)|(simp [*];done)),(by first|rfl|(simp;done)|(simp [*];done)),(by first|rfl|(simp;done)|(simp [*];done)),H',⟨Nat.le_refl _⟩,⟨by repeat (first|(with_reducible first|exact HI0.out|apply IsS90.alloc|apply IsS90.drewN|apply IsS90.drew|apply IsS90.set_0|apply IsS90.set_1|apply IsS90.set_2)|exact HI0.out)⟩,⟨by repeat (first|(with_reducible first|exact HK.out|apply KeepBut.set_|apply keep_drewN|apply keep_drew|apply keep_alloc)|exact HK.out)⟩,⟨by repeat (first|(with_reducible first|exact HB.out|apply bal|apply bdN|apply bd1|refine below_set ?_ (IsS90.ge HI0.out))|exact HB.out)⟩⟩
 case round =>
  clear H';obtain ⟨x3_1,x4_1,x5_1,x1000_1,x1001_1,x1002_1,rfl,rfl,rfl,HA,HK1,HI0,HK,HB⟩:=hrel
  cases gk with
  | zero=>exact absurd HA.out (by simp [barqueref01_Reader_Num.l0])
  | succ k1 =>
   have H:=HA.out;clear HA;simp only [barqueref01_Reader_Num.l0] at H;by_cases c2:x5_1 < 9
   ·rw [if_pos c2] at H;have c2b0:decide (x5_1 < 9)=true:=decide_eq_true c2;clear c2;replace H:=Option.bind_eq_some_iff.mp H;obtain ⟨⟨t335,t336,t337,t338⟩,A30,H⟩:=H;replace H:(if t338=0 then (if x5_1 > 0 then (if t335=0 then (barqueref01_Reader_Num.j1 k1 x3_1 x4_1 x5_1 t335 true t336 t337 t338) else (if x5_1=8 then (barqueref01_Reader_Num.j1 k1 x3_1 x4_1 x5_1 t335 (decide (t335 > 63)) t336 t337 t338) else (barqueref01_Reader_Num.j1 k1 x3_1 x4_1 x5_1 t335 false t336 t337 t338))) else (if x5_1=8 then (barqueref01_Reader_Num.j1 k1 x3_1 x4_1 x5_1 t335 (decide (t335 > 63)) t336 t337 t338) else (barqueref01_Reader_Num.j1 k1 x3_1 x4_1 x5_1 t335 false t336 t337 t338))) else (some (0,t336,t337,t338)))=some (r1,r2,r3,r4):=H;have A3:=Aside0.mk A30;clear A30;by_cases c4:t338=0
    ·rw [if_pos c4] at H;have c4b0:(t338 == 0)=true:=beq_iff_eq.mpr c4;have c4b1:(t338 != 0)=false:=bne_eq_false_iff_eq.mpr c4;clear c4;have HC5:=Aside0.mk H;clear H;go_upto_region 9 with (first|((with_reducible refine gate_callee (f:=79) rfl ?_);refine goesL_ (some 12) rfl rfl Tryd.func79 (by kernel_rfl) rfl #[.pointer (some ⟨g,0,none⟩)] rfl (by (try simp only [List.map_toArray,List.map_cons,List.map_nil]);first|done|rfl|(simp only [List.length_drop,List.length_take];rfl)) ?_;(with_reducible refine (barqueref01_Reader_Byte.calls g x1000_1 x1001_1 x1002_1 t335 t336 t337 t338 w0 _ ?side1 ?side2 A3.out).mono ?_);(case side1=>repeat (first|(with_reducible first|exact HI0.out|apply IsS90.alloc|apply IsS90.drewN|apply IsS90.drew|apply IsS90.set_0|apply IsS90.set_1|apply IsS90.set_2)|exact HI0.out));(case side2=>repeat (first|(with_reducible first|exact HB.out|apply bal|apply bdN|apply bd1|refine below_set ?_ (IsS90.ge HI0.out))|exact HB.out));rintro e w6 ⟨rfl,hi,hb,hk⟩;refine ⟨_,rfl,?_⟩;have n0_:=Aside0.mk (KeepBut.trans (by repeat (first|(with_reducible first|exact HK.out|apply KeepBut.set_|apply keep_drewN|apply keep_drew|apply keep_alloc)|exact HK.out)) hk (.inl rfl));have n1_:=Aside0.mk (hb);have n2_:=Aside0.mk (hi);clear HK;clear HB;clear HI0;have HK:=n0_;have HB:=n1_;have HI0:=n2_;clear n0_ n1_ n2_;(try clear hb);(try clear hb2);(try clear hk);(try clear hi);obtain ⟨HGz7,hgz7⟩:=HI0.out;have hcz7_0:=cellS90_0 HGz7;have hcz7_1:=cellS90_1 HGz7;have hcz7_2:=cellS90_2 HGz7;have hfz7_0:=blk_frozen HGz7 0;have hfz7_1:=blk_frozen HGz7 1;have hfz7_2:=blk_frozen HGz7 2;clear HGz7 hgz7));(try simp only [Act.put,List.setIfInBounds_toArray,List.set_cons_zero,List.set_cons_succ]);go_cut [31] (fun v31 wc=>∃ (kq:Nat) (x31_4:Bool),v31=.bool x31_4∧Aside0 (barqueref01_Reader_Num.j1 kq x3_1 x4_1 x5_1 t335 x31_4 t336 t337 t338=some (r1,r2,r3,r4))∧Aside0 (kq≤k1)∧Aside0 (IsS90 w0 wc g t336 t337 t338)∧Aside0 (KeepBut w wc g none)∧Aside0 (Below w0.heap.size w0 wc))
     case first =>
      have H:=HC5.out;clear HC5;by_cases c8:x5_1 > 0
      ·rw [if_pos c8] at H;have c8b0:decide (0 < x5_1)=true:=decide_eq_true c8;clear c8;(first|rw [c8b0]|(simp only [i64_w,i32_w];rw [c8b0])|skip);by_cases c9:t335=0
       ·rw [if_pos c9] at H;have c9b0:(t335 == 0)=true:=beq_iff_eq.mpr c9;have c9b1:(t335 != 0)=false:=bne_eq_false_iff_eq.mpr c9;clear c9;have H':=Aside0.mk H;clear H;go_wp2;go_meet
        case rel=>exact ⟨_,(true),(by first|rfl|(simp;done)|(simp [*];done)),H',⟨by have:=HK1.out;first|omega|exact Nat.le_refl _⟩,⟨by repeat (first|(with_reducible first|exact HI0.out|apply IsS90.alloc|apply IsS90.drewN|apply IsS90.drew|apply IsS90.set_0|apply IsS90.set_1|apply IsS90.set_2)|exact HI0.out)⟩,⟨by repeat (first|(with_reducible first|exact HK.out|apply KeepBut.set_|apply keep_drewN|apply keep_drew|apply keep_alloc)|exact HK.out)⟩,⟨by repeat (first|(with_reducible first|exact HB.out|apply bal|apply bdN|apply bd1|refine below_set ?_ (IsS90.ge HI0.out))|exact HB.out)⟩⟩
       ·rw [if_neg c9] at H;have c9b0:(t335 == 0)=false:=beq_eq_false_iff_ne.mpr c9;have c9b1:(t335 != 0)=true:=bne_iff_ne.mpr c9;by_cases c10:x5_1=8
        ·rw [if_pos c10] at H;have c10b0:(x5_1 == 8)=true:=beq_iff_eq.mpr c10;have c10b1:(x5_1 != 8)=false:=bne_eq_false_iff_eq.mpr c10;clear c10;have H':=Aside0.mk H;clear H;go_wp2;go_meet
         case rel=>exact ⟨_,(decide (t335 > 63)),(by first|rfl|(simp;done)|(simp [*];done)),H',⟨by have:=HK1.out;first|omega|exact Nat.le_refl _⟩,⟨by repeat (first|(with_reducible first|exact HI0.out|apply IsS90.alloc|apply IsS90.drewN|apply IsS90.drew|apply IsS90.set_0|apply IsS90.set_1|apply IsS90.set_2)|exact HI0.out)⟩,⟨by repeat (first|(with_reducible first|exact HK.out|apply KeepBut.set_|apply keep_drewN|apply keep_drew|apply keep_alloc)|exact HK.out)⟩,⟨by repeat (first|(with_reducible first|exact HB.out|apply bal|apply bdN|apply bd1|refine below_set ?_ (IsS90.ge HI0.out))|exact HB.out)⟩⟩
        ·rw [if_neg c10] at H;have c10b0:(x5_1 == 8)=false:=beq_eq_false_iff_ne.mpr c10;have c10b1:(x5_1 != 8)=true:=bne_iff_ne.mpr c10;have H':=Aside0.mk H;clear H;go_wp2;go_meet
         case rel=>exact ⟨_,(false),(by first|rfl|(simp;done)|(simp [*];done)),H',⟨by have:=HK1.out;first|omega|exact Nat.le_refl _⟩,⟨by repeat (first|(with_reducible first|exact HI0.out|apply IsS90.alloc|apply IsS90.drewN|apply IsS90.drew|apply IsS90.set_0|apply IsS90.set_1|apply IsS90.set_2)|exact HI0.out)⟩,⟨by repeat (first|(with_reducible first|exact HK.out|apply KeepBut.set_|apply keep_drewN|apply keep_drew|apply keep_alloc)|exact HK.out)⟩,⟨by repeat (first|(with_reducible first|exact HB.out|apply bal|apply bdN|apply bd1|refine below_set ?_ (IsS90.ge HI0.out))|exact HB.out)⟩⟩
      ·rw [if_neg c8] at H;have c8b0:decide (0 < x5_1)=false:=decide_eq_false c8;clear c8;(first|rw [c8b0]|(simp only [i64_w,i32_w];rw [c8b0])|skip);by_cases c11:x5_1=8
       ·rw [if_pos c11] at H;have c11b0:(x5_1 == 8)=true:=beq_iff_eq.mpr c11;have c11b1:(x5_1 != 8)=false:=bne_eq_false_iff_eq.mpr c11;clear c11;have H':=Aside0.mk H;clear H;go_wp2;go_meet
        case rel=>exact ⟨_,(decide (t335 > 63)),(by first|rfl|(simp;done)|(simp [*];done)),H',⟨by have:=HK1.out;first|omega|exact Nat.le_refl _⟩,⟨by repeat (first|(with_reducible first|exact HI0.out|apply IsS90.alloc|apply IsS90.drewN|apply IsS90.drew|apply IsS90.set_0|apply IsS90.set_1|apply IsS90.set_2)|exact HI0.out)⟩,⟨by repeat (first|(with_reducible first|exact HK.out|apply KeepBut.set_|apply keep_drewN|apply keep_drew|apply keep_alloc)|exact HK.out)⟩,⟨by repeat (first|(with_reducible first|exact HB.out|apply bal|apply bdN|apply bd1|refine below_set ?_ (IsS90.ge HI0.out))|exact HB.out)⟩⟩
       ·rw [if_neg c11] at H;have c11b0:(x5_1 == 8)=false:=beq_eq_false_iff_ne.mpr c11;have c11b1:(x5_1 != 8)=true:=bne_iff_ne.mpr c11;have H':=Aside0.mk H;clear H;go_wp2;go_meet
        case rel=>exact ⟨_,(false),(by first|rfl|(simp;done)|(simp [*];done)),H',⟨by have:=HK1.out;first|omega|exact Nat.le_refl _⟩,⟨by repeat (first|(with_reducible first|exact HI0.out|apply IsS90.alloc|apply IsS90.drewN|apply IsS90.drew|apply IsS90.set_0|apply IsS90.set_1|apply IsS90.set_2)|exact HI0.out)⟩,⟨by repeat (first|(with_reducible first|exact HK.out|apply KeepBut.set_|apply keep_drewN|apply keep_drew|apply keep_alloc)|exact HK.out)⟩,⟨by repeat (first|(with_reducible first|exact HB.out|apply bal|apply bdN|apply bd1|refine below_set ?_ (IsS90.ge HI0.out))|exact HB.out)⟩⟩
     case rest =>
      clear HC5;(try clear c1);(try clear c2);(try clear c2b0);(try clear p2);(try clear c4);(try clear c4b0);(try clear c4b1);(try clear c6);(try clear c7);(try clear c8);(try clear c8b0);(try clear c9);(try clear c9b0);(try clear c9b1);(try clear c10);(try clear c10b0);(try clear c10b1);(try clear c11);(try clear c11b0);(try clear c11b1);(try clear hcz7_0);(try clear hcz7_1);(try clear hcz7_2);(try clear hfz7_0);(try clear hfz7_1);(try clear hfz7_2);obtain ⟨kq,x31_4,rfl,HA,HJ4,HI0,HK,HB⟩:=hcut
      cases kq with
      | zero=>exact absurd HA.out (by simp [barqueref01_Reader_Num.j1])
      | succ kj4 =>
       have H:=HA.out;clear HA;simp only [barqueref01_Reader_Num.j1] at H;by_cases c12:x31_4=true
       ·subst c12;(have H1:(some (0,t336,t337,5))=some (r1,r2,r3,r4):=by rw [if_pos rfl] at H;exact H);clear H;have H:=H1;clear H1;simp only [Option.some.injEq,Prod.mk.injEq] at H;obtain ⟨rfl,rfl,rfl,rfl⟩:=H;obtain ⟨HGz13,hgz13⟩:=HI0.out;have hcz13_0:=cellS90_0 HGz13;have hcz13_1:=cellS90_1 HGz13;have hcz13_2:=cellS90_2 HGz13;have hfz13_0:=blk_frozen HGz13 0;have hfz13_1:=blk_frozen HGz13 1;have hfz13_2:=blk_frozen HGz13 2;clear HGz13 hgz13;go_wp2;go_ret;exact ⟨by first|rfl|(simp [errW_none,errW_some] <;> rfl)|(simp [*,errW_none,errW_some] <;> rfl),by repeat (first|(with_reducible first|exact HI0.out|apply IsS90.alloc|apply IsS90.drewN|apply IsS90.drew|apply IsS90.set_0|apply IsS90.set_1|apply IsS90.set_2)|exact HI0.out),by repeat (first|(with_reducible first|exact HB.out|apply bal|apply bdN|apply bd1|refine below_set ?_ (IsS90.ge HI0.out))|exact HB.out),by repeat (first|(with_reducible first|exact HK.out|apply KeepBut.set_|apply keep_drewN|apply keep_drew|apply keep_alloc)|exact HK.out)⟩
       ·replace c12:=Bool.eq_false_iff.mpr c12;subst c12;(have H1:(if t335 < 128 then (some (wrap64 (x3_1 + (wrap64 ((Int.tmod t335 128) * x4_1))),t336,t337,t338)) else (barqueref01_Reader_Num.l0 kj4 (wrap64 (x3_1 + (wrap64 ((Int.tmod t335 128) * x4_1)))) (wrap64 (x4_1 * 128)) (wrap64 (x5_1 + 1)) t336 t337 t338))=some (r1,r2,r3,r4):=by rw [if_neg (show ¬ (false=true) by decide)] at H;exact H);clear H;have H:=H1;clear H1;by_cases c14:t335 < 128
        ·rw [if_pos c14] at H;have c14b0:decide (t335 < 128)=true:=decide_eq_true c14;clear c14;simp only [Option.some.injEq,Prod.mk.injEq] at H;obtain ⟨rfl,rfl,rfl,rfl⟩:=H;go_wp2;go_ret;exact ⟨by first|rfl|(simp [errW_none,errW_some] <;> rfl)|(simp [*,errW_none,errW_some] <;> rfl),by repeat (first|(with_reducible first|exact HI0.out|apply IsS90.alloc|apply IsS90.drewN|apply IsS90.drew|apply IsS90.set_0|apply IsS90.set_1|apply IsS90.set_2)|exact HI0.out),by repeat (first|(with_reducible first|exact HB.out|apply bal|apply bdN|apply bd1|refine below_set ?_ (IsS90.ge HI0.out))|exact HB.out),by repeat (first|(with_reducible first|exact HK.out|apply KeepBut.set_|apply keep_drewN|apply keep_drew|apply keep_alloc)|exact HK.out)⟩
        ·rw [if_neg c14] at H;have c14b0:decide (t335 < 128)=false:=decide_eq_false c14;clear c14;have H':=Aside0.mk H;clear H;go_wp2;go_roundg kj4
         case measure=>have:=HK1.out;have:=HJ4.out;omega
         case rel=>exact ⟨(wrap64 (x3_1 + (wrap64 ((Int.tmod t335 128) * x4_1)))),(wrap64 (x4_1 * 128)),(wrap64 (x5_1 + 1)),(t336),(t337),(t338),(by first|rfl|(simp;done)|(simp [*];done)),(by first|rfl|(simp;done)|(simp [*];done)),(by first|rfl|(simp;done)|(simp [*];done)),H',⟨by have:=HK1.out;have:=HJ4.out;omega⟩,⟨by repeat (first|(with_reducible first|exact HI0.out|apply IsS90.alloc|apply IsS90.drewN|apply IsS90.drew|apply IsS90.set_0|apply IsS90.set_1|apply IsS90.set_2)|exact HI0.out)⟩,⟨by repeat (first|(with_reducible first|exact HK.out|apply KeepBut.set_|apply keep_drewN|apply keep_drew|apply keep_alloc)|exact HK.out)⟩,⟨by repeat (first|(with_reducible first|exact HB.out|apply bal|apply bdN|apply bd1|refine below_set ?_ (IsS90.ge HI0.out))|exact HB.out)⟩⟩
    ·rw [if_neg c4] at H;have c4b0:(t338 == 0)=false:=beq_eq_false_iff_ne.mpr c4;have c4b1:(t338 != 0)=true:=bne_iff_ne.mpr c4;simp only [Option.some.injEq,Prod.mk.injEq] at H;obtain ⟨rfl,rfl,rfl,rfl⟩:=H;go_wp2_with (first|((with_reducible refine gate_callee (f:=79) rfl ?_);refine goesL_ (some 12) rfl rfl Tryd.func79 (by kernel_rfl) rfl #[.pointer (some ⟨g,0,none⟩)] rfl (by (try simp only [List.map_toArray,List.map_cons,List.map_nil]);first|done|rfl|(simp only [List.length_drop,List.length_take];rfl)) ?_;(with_reducible refine (barqueref01_Reader_Byte.calls g x1000_1 x1001_1 x1002_1 t335 t336 t337 t338 w0 _ ?side1 ?side2 A3.out).mono ?_);(case side1=>repeat (first|(with_reducible first|exact HI0.out|apply IsS90.alloc|apply IsS90.drewN|apply IsS90.drew|apply IsS90.set_0|apply IsS90.set_1|apply IsS90.set_2)|exact HI0.out));(case side2=>repeat (first|(with_reducible first|exact HB.out|apply bal|apply bdN|apply bd1|refine below_set ?_ (IsS90.ge HI0.out))|exact HB.out));rintro e w15 ⟨rfl,hi,hb,hk⟩;refine ⟨_,rfl,?_⟩;have n0_:=Aside0.mk (KeepBut.trans (by repeat (first|(with_reducible first|exact HK.out|apply KeepBut.set_|apply keep_drewN|apply keep_drew|apply keep_alloc)|exact HK.out)) hk (.inl rfl));have n1_:=Aside0.mk (hb);have n2_:=Aside0.mk (hi);clear HK;clear HB;clear HI0;have HK:=n0_;have HB:=n1_;have HI0:=n2_;clear n0_ n1_ n2_;(try clear hb);(try clear hb2);(try clear hk);(try clear hi);obtain ⟨HGz16,hgz16⟩:=HI0.out;have hcz16_0:=cellS90_0 HGz16;have hcz16_1:=cellS90_1 HGz16;have hcz16_2:=cellS90_2 HGz16;have hfz16_0:=blk_frozen HGz16 0;have hfz16_1:=blk_frozen HGz16 1;have hfz16_2:=blk_frozen HGz16 2;clear HGz16 hgz16));go_ret;exact ⟨by first|rfl|(simp [errW_none,errW_some] <;> rfl)|(simp [*,errW_none,errW_some] <;> rfl),by repeat (first|(with_reducible first|exact HI0.out|apply IsS90.alloc|apply IsS90.drewN|apply IsS90.drew|apply IsS90.set_0|apply IsS90.set_1|apply IsS90.set_2)|exact HI0.out),by repeat (first|(with_reducible first|exact HB.out|apply bal|apply bdN|apply bd1|refine below_set ?_ (IsS90.ge HI0.out))|exact HB.out),by repeat (first|(with_reducible first|exact HK.out|apply KeepBut.set_|apply keep_drewN|apply keep_drew|apply keep_alloc)|exact HK.out)⟩
   ·rw [if_neg c2] at H;have c2b0:decide (x5_1 < 9)=false:=decide_eq_false c2;clear c2;simp only [Option.some.injEq,Prod.mk.injEq] at H;obtain ⟨rfl,rfl,rfl,rfl⟩:=H;go_wp2;go_ret;exact ⟨by first|rfl|(simp [errW_none,errW_some] <;> rfl)|(simp [*,errW_none,errW_some] <;> rfl),by repeat (first|(with_reducible first|exact HI0.out|apply IsS90.alloc|apply IsS90.drewN|apply IsS90.drew|apply IsS90.set_0|apply IsS90.set_1|apply IsS90.set_2)|exact HI0.out),by repeat (first|(with_reducible first|exact HB.out|apply bal|apply bdN|apply bd1|refine below_set ?_ (IsS90.ge HI0.out))|exact HB.out),by repeat (first|(with_reducible first|exact HK.out|apply KeepBut.set_|apply keep_drewN|apply keep_drew|apply keep_alloc)|exact HK.out)⟩
def barqueref01_Reader_Count.f (k:Nat) (s0_0:ByteArray) (s0_1:Int) (s0_2:Int) (a1:Int):Option (Int × ByteArray × Int × Int):=(barqueref01_Reader_Num.f k s0_0 s0_1 s0_2).bind fun bt339=>(if bt339.2.2.2=0 then (if bt339.1 > a1 then (some (0,bt339.2.1,bt339.2.2.1,4)) else (some (bt339.1,bt339.2.1,bt339.2.2.1,bt339.2.2.2))) else (some (bt339.1,bt339.2.1,bt339.2.2.1,bt339.2.2.2)))
set_option maxHeartbeats 8000000 in
set_option maxRecDepth 100000 in
theorem barqueref01_Reader_Count.calls (k:Nat) (g:Nat) (s0_0:ByteArray) (s0_1:Int) (s0_2:Int) (a1:Int) (r1:Int) (r2:ByteArray) (r3:Int) (r4:Int) (w0 w:World) (hI:IsS90 w0 w g s0_0 s0_1 s0_2) (hB:Below w0.heap.size w0 w) (h:barqueref01_Reader_Count.f k s0_0 s0_1 s0_2 a1=some (r1,r2,r3,r4)) :
  Calls Tryd.prog 60 #[.pointer (some ⟨g,0,none⟩),.int .i64 a1] w fun e w'=>e=.returned (.int .i64 r1)∧IsS90 w0 w' g r2 r3 r4∧Below w0.heap.size w0 w'∧KeepBut w w' g none:=by
 have HI0:=Aside0.mk hI;have HK:=Aside0.mk (KeepBut.refl w g none);have HL:=Aside0.mk hB.size;clear hI;have HW0:=Aside0.mk hB.size;have HB:=Aside0.mk hB;clear hB;have H:((barqueref01_Reader_Num.f k s0_0 s0_1 s0_2).bind fun bt339=>(if bt339.2.2.2=0 then (if bt339.1 > a1 then (some (0,bt339.2.1,bt339.2.2.1,4)) else (some (bt339.1,bt339.2.1,bt339.2.2.1,bt339.2.2.2))) else (some (bt339.1,bt339.2.1,bt339.2.2.1,bt339.2.2.2))))=some (r1,r2,r3,r4):=h;clear h;replace H:=Option.bind_eq_some_iff.mp H;obtain ⟨⟨t339,t340,t341,t342⟩,A30,H⟩:=H;replace H:(if t342=0 then (if t339 > a1 then (some (0,t340,t341,4)) else (some (t339,t340,t341,t342))) else (some (t339,t340,t341,t342)))=some (r1,r2,r3,r4):=H;have A3:=Aside0.mk A30;clear A30;by_cases c4:t342=0
 ·rw [if_pos c4] at H;have c4b0:(t342 == 0)=true:=beq_iff_eq.mpr c4;have c4b1:(t342 != 0)=false:=bne_eq_false_iff_eq.mpr c4;clear c4;by_cases c5:t339 > a1
  ·rw [if_pos c5] at H;have c5b0:decide (a1 < t339)=true:=decide_eq_true c5;clear c5;simp only [Option.some.injEq,Prod.mk.injEq] at H;obtain ⟨rfl,rfl,rfl,rfl⟩:=H;go_enter Tryd.func60,Tryd.ntmps60;go_wp2_with (first|((with_reducible refine gate_callee (f:=62) rfl ?_);refine goesL_ (some 7) rfl rfl Tryd.func62 (by kernel_rfl) rfl #[.pointer (some ⟨g,0,none⟩)] rfl (by (try simp only [List.map_toArray,List.map_cons,List.map_nil]);first|done|rfl|(simp only [List.length_drop,List.length_take];rfl)) ?_;(with_reducible refine (barqueref01_Reader_Num.calls k g s0_0 s0_1 s0_2 t339 t340 t341 t342 w0 _ ?side1 ?side2 A3.out).mono ?_);(case side1=>repeat (first|(with_reducible first|exact HI0.out|apply IsS90.alloc|apply IsS90.drewN|apply IsS90.drew|apply IsS90.set_0|apply IsS90.set_1|apply IsS90.set_2)|exact HI0.out));(case side2=>repeat (first|(with_reducible first|exact HB.out|apply bal|apply bdN|apply bd1|refine below_set ?_ (IsS90.ge HI0.out))|exact HB.out));rintro e w6 ⟨rfl,hi,hb,hk⟩;refine ⟨_,rfl,?_⟩;have n0_:=Aside0.mk (KeepBut.trans (by repeat (first|(with_reducible first|exact HK.out|apply KeepBut.set_|apply keep_drewN|apply keep_drew|apply keep_alloc)|exact HK.out)) hk (.inl rfl));have n1_:=Aside0.mk (hb);have n2_:=Aside0.mk (hi);clear HK;clear HB;clear HI0;have HK:=n0_;have HB:=n1_;have HI0:=n2_;clear n0_ n1_ n2_;(try clear hb);(try clear hb2);(try clear hk);(try clear hi);obtain ⟨HGz7,hgz7⟩:=HI0.out;have hcz7_0:=cellS90_0 HGz7;have hcz7_1:=cellS90_1 HGz7;have hcz7_2:=cellS90_2 HGz7;have hfz7_0:=blk_frozen HGz7 0;have hfz7_1:=blk_frozen HGz7 1;have hfz7_2:=blk_frozen HGz7 2;clear HGz7 hgz7));go_ret;exact ⟨by first|rfl|(simp [errW_none,errW_some] <;> rfl)|(simp [*,errW_none,errW_some] <;> rfl),by repeat (first|(with_reducible first|exact HI0.out|apply IsS90.alloc|apply IsS90.drewN|apply IsS90.drew|apply IsS90.set_0|apply IsS90.set_1|apply IsS90.set_2)|exact HI0.out),by repeat (first|(with_reducible first|exact HB.out|apply bal|apply bdN|apply bd1|refine below_set ?_ (IsS90.ge HI0.out))|exact HB.out),by repeat (first|(with_reducible first|exact HK.out|apply KeepBut.set_|apply keep_drewN|apply keep_drew|apply keep_alloc)|exact HK.out)⟩
  ·rw [if_neg c5] at H;have c5b0:decide (a1 < t339)=false:=decide_eq_false c5;clear c5;simp only [Option.some.injEq,Prod.mk.injEq] at H;obtain ⟨rfl,rfl,rfl,rfl⟩:=H;go_enter Tryd.func60,Tryd.ntmps60;go_wp2_with (first|((with_reducible refine gate_callee (f:=62) rfl ?_);refine goesL_ (some 7) rfl rfl Tryd.func62 (by kernel_rfl) rfl #[.pointer (some ⟨g,0,none⟩)] rfl (by (try simp only [List.map_toArray,List.map_cons,List.map_nil]);first|done|rfl|(simp only [List.length_drop,List.length_take];rfl)) ?_;(with_reducible refine (barqueref01_Reader_Num.calls k g s0_0 s0_1 s0_2 t339 t340 t341 t342 w0 _ ?side1 ?side2 A3.out).mono ?_);(case side1=>repeat (first|(with_reducible first|exact HI0.out|apply IsS90.alloc|apply IsS90.drewN|apply IsS90.drew|apply IsS90.set_0|apply IsS90.set_1|apply IsS90.set_2)|exact HI0.out));(case side2=>repeat (first|(with_reducible first|exact HB.out|apply bal|apply bdN|apply bd1|refine below_set ?_ (IsS90.ge HI0.out))|exact HB.out));rintro e w8 ⟨rfl,hi,hb,hk⟩;refine ⟨_,rfl,?_⟩;have n0_:=Aside0.mk (KeepBut.trans (by repeat (first|(with_reducible first|exact HK.out|apply KeepBut.set_|apply keep_drewN|apply keep_drew|apply keep_alloc)|exact HK.out)) hk (.inl rfl));have n1_:=Aside0.mk (hb);have n2_:=Aside0.mk (hi);clear HK;clear HB;clear HI0;have HK:=n0_;have HB:=n1_;have HI0:=n2_;clear n0_ n1_ n2_;(try clear hb);(try clear hb2);(try clear hk);(try clear hi);obtain ⟨HGz9,hgz9⟩:=HI0.out;have hcz9_0:=cellS90_0 HGz9;have hcz9_1:=cellS90_1 HGz9;have hcz9_2:=cellS90_2 HGz9;have hfz9_0:=blk_frozen HGz9 0;have hfz9_1:=blk_frozen HGz9 1;have hfz9_2:=blk_frozen HGz9 2;clear HGz9 hgz9));go_ret;exact ⟨by first|rfl|(simp [errW_none,errW_some] <;> rfl)|(simp [*,errW_none,errW_some] <;> rfl),by repeat (first|(with_reducible first|exact HI0.out|apply IsS90.alloc|apply IsS90.drewN|apply IsS90.drew|apply IsS90.set_0|apply IsS90.set_1|apply IsS90.set_2)|exact HI0.out),by repeat (first|(with_reducible first|exact HB.out|apply bal|apply bdN|apply bd1|refine below_set ?_ (IsS90.ge HI0.out))|exact HB.out),by repeat (first|(with_reducible first|exact HK.out|apply KeepBut.set_|apply keep_drewN|apply keep_drew|apply keep_alloc)|exact HK.out)⟩
 ·rw [if_neg c4] at H;have c4b0:(t342 == 0)=false:=beq_eq_false_iff_ne.mpr c4;have c4b1:(t342 != 0)=true:=bne_iff_ne.mpr c4;simp only [Option.some.injEq,Prod.mk.injEq] at H;obtain ⟨rfl,rfl,rfl,rfl⟩:=H;go_enter Tryd.func60,Tryd.ntmps60;go_wp2_with (first|((with_reducible refine gate_callee (f:=62) rfl ?_);refine goesL_ (some 7) rfl rfl Tryd.func62 (by kernel_rfl) rfl #[.pointer (some ⟨g,0,none⟩)] rfl (by (try simp only [List.map_toArray,List.map_cons,List.map_nil]);first|done|rfl|(simp only [List.length_drop,List.length_take];rfl)) ?_;(with_reducible refine (barqueref01_Reader_Num.calls k g s0_0 s0_1 s0_2 t339 t340 t341 t342 w0 _ ?side1 ?side2 A3.out).mono ?_);(case side1=>repeat (first|(with_reducible first|exact HI0.out|apply IsS90.alloc|apply IsS90.drewN|apply IsS90.drew|apply IsS90.set_0|apply IsS90.set_1|apply IsS90.set_2)|exact HI0.out));(case side2=>repeat (first|(with_reducible first|exact HB.out|apply bal|apply bdN|apply bd1|refine below_set ?_ (IsS90.ge HI0.out))|exact HB.out));rintro e w10 ⟨rfl,hi,hb,hk⟩;refine ⟨_,rfl,?_⟩;have n0_:=Aside0.mk (KeepBut.trans (by repeat (first|(with_reducible first|exact HK.out|apply KeepBut.set_|apply keep_drewN|apply keep_drew|apply keep_alloc)|exact HK.out)) hk (.inl rfl));have n1_:=Aside0.mk (hb);have n2_:=Aside0.mk (hi);clear HK;clear HB;clear HI0;have HK:=n0_;have HB:=n1_;have HI0:=n2_;clear n0_ n1_ n2_;(try clear hb);(try clear hb2);(try clear hk);(try clear hi);obtain ⟨HGz11,hgz11⟩:=HI0.out;have hcz11_0:=cellS90_0 HGz11;have hcz11_1:=cellS90_1 HGz11;have hcz11_2:=cellS90_2 HGz11;have hfz11_0:=blk_frozen HGz11 0;have hfz11_1:=blk_frozen HGz11 1;have hfz11_2:=blk_frozen HGz11 2;clear HGz11 hgz11));go_ret;exact ⟨by first|rfl|(simp [errW_none,errW_some] <;> rfl)|(simp [*,errW_none,errW_some] <;> rfl),by repeat (first|(with_reducible first|exact HI0.out|apply IsS90.alloc|apply IsS90.drewN|apply IsS90.drew|apply IsS90.set_0|apply IsS90.set_1|apply IsS90.set_2)|exact HI0.out),by repeat (first|(with_reducible first|exact HB.out|apply bal|apply bdN|apply bd1|refine below_set ?_ (IsS90.ge HI0.out))|exact HB.out),by repeat (first|(with_reducible first|exact HK.out|apply KeepBut.set_|apply keep_drewN|apply keep_drew|apply keep_alloc)|exact HK.out)⟩
def barqueref01_Reader_Raw.f (s0_0:ByteArray) (s0_1:Int) (s0_2:Int) (a1:Int):Option (ByteArray × ByteArray × Int × Int):=if s0_2=0 then (if a1 < 0 then (some ((⟨#[]⟩:ByteArray),s0_0,s0_1,1)) else (if a1 > (wrap64 ((s0_0.size:Int) - s0_1)) then (some ((⟨#[]⟩:ByteArray),s0_0,s0_1,3)) else (if 0≤(wrap64 ((wrap64 (s0_1 + a1)) - a1)) then (if (wrap64 ((wrap64 (s0_1 + a1)) - a1))≤(wrap64 (s0_1 + a1)) then (if (wrap64 (s0_1 + a1))≤(s0_0.size:Int) then (some (s0_0.extract ((wrap64 ((wrap64 (s0_1 + a1)) - a1)):Int).toNat ((wrap64 (s0_1 + a1)):Int).toNat,s0_0,wrap64 (s0_1 + a1),s0_2)) else (none)) else (none)) else (none)))) else (some ((⟨#[]⟩:ByteArray),s0_0,s0_1,s0_2))
set_option maxHeartbeats 8000000 in
set_option maxRecDepth 100000 in
theorem barqueref01_Reader_Raw.calls (g:Nat) (s0_0:ByteArray) (s0_1:Int) (s0_2:Int) (a1:Int) (r1:ByteArray) (r2:ByteArray) (r3:Int) (r4:Int) (w0 w:World) (hI:IsS90 w0 w g s0_0 s0_1 s0_2) (hB:Below w0.heap.size w0 w) (h:barqueref01_Reader_Raw.f s0_0 s0_1 s0_2 a1=some (r1,r2,r3,r4)) :
  Calls Tryd.prog 78 #[.pointer (some ⟨g,0,none⟩),.int .i64 a1] w fun e w'=>e=.returned (.string r1)∧IsS90 w0 w' g r2 r3 r4∧Below w0.heap.size w0 w'∧KeepBut w w' g none:=by
 have HI0:=Aside0.mk hI;have HK:=Aside0.mk (KeepBut.refl w g none);have HL:=Aside0.mk hB.size;clear hI;have HW0:=Aside0.mk hB.size;have HB:=Aside0.mk hB;clear hB;have H:(if s0_2=0 then (if a1 < 0 then (some ((⟨#[]⟩:ByteArray),s0_0,s0_1,1)) else (if a1 > (wrap64 ((s0_0.size:Int) - s0_1)) then (some ((⟨#[]⟩:ByteArray),s0_0,s0_1,3)) else (if 0≤(wrap64 ((wrap64 (s0_1 + a1)) - a1)) then (if (wrap64 ((wrap64 (s0_1 + a1)) - a1))≤(wrap64 (s0_1 + a1)) then (if (wrap64 (s0_1 + a1))≤(s0_0.size:Int) then (some (s0_0.extract ((wrap64 ((wrap64 (s0_1 + a1)) - a1)):Int).toNat ((wrap64 (s0_1 + a1)):Int).toNat,s0_0,wrap64 (s0_1 + a1),s0_2)) else (none)) else (none)) else (none)))) else (some ((⟨#[]⟩:ByteArray),s0_0,s0_1,s0_2)))=some (r1,r2,r3,r4):=h;clear h;by_cases c3:s0_2=0
 ·rw [if_pos c3] at H;have c3b0:(s0_2 == 0)=true:=beq_iff_eq.mpr c3;have c3b1:(s0_2 != 0)=false:=bne_eq_false_iff_eq.mpr c3;clear c3;by_cases c4:a1 < 0
  ·rw [if_pos c4] at H;have c4b0:decide (a1 < 0)=true:=decide_eq_true c4;clear c4;simp only [Option.some.injEq,Prod.mk.injEq] at H;obtain ⟨rfl,rfl,rfl,rfl⟩:=H;obtain ⟨HGz5,hgz5⟩:=HI0.out;have hcz5_0:=cellS90_0 HGz5;have hcz5_1:=cellS90_1 HGz5;have hcz5_2:=cellS90_2 HGz5;have hfz5_0:=blk_frozen HGz5 0;have hfz5_1:=blk_frozen HGz5 1;have hfz5_2:=blk_frozen HGz5 2;clear HGz5 hgz5;go_enter Tryd.func78,Tryd.ntmps78;go_wp2;(repeat (go_quiet (fail);try go_wp2));go_ret;exact ⟨by first|rfl|(simp [errW_none,errW_some] <;> rfl)|(simp [*,errW_none,errW_some] <;> rfl),by repeat (first|(with_reducible first|exact HI0.out|apply IsS90.alloc|apply IsS90.drewN|apply IsS90.drew|apply IsS90.set_0|apply IsS90.set_1|apply IsS90.set_2)|exact HI0.out),by repeat (first|(with_reducible first|exact HB.out|apply bal|apply bdN|apply bd1|refine below_set ?_ (IsS90.ge HI0.out))|exact HB.out),by repeat (first|(with_reducible first|exact HK.out|apply KeepBut.set_|apply keep_drewN|apply keep_drew|apply keep_alloc)|exact HK.out)⟩
  ·rw [if_neg c4] at H;have c4b0:decide (a1 < 0)=false:=decide_eq_false c4;clear c4;by_cases c6:a1 > (wrap64 ((s0_0.size:Int) - s0_1))
   ·rw [if_pos c6] at H;have c6b0:decide ((wrap64 ((s0_0.size:Int) - s0_1)) < a1)=true:=decide_eq_true c6;clear c6;simp only [Option.some.injEq,Prod.mk.injEq] at H;obtain ⟨rfl,rfl,rfl,rfl⟩:=H;obtain ⟨HGz7,hgz7⟩:=HI0.out;have hcz7_0:=cellS90_0 HGz7;have hcz7_1:=cellS90_1 HGz7;have hcz7_2:=cellS90_2 HGz7;have hfz7_0:=blk_frozen HGz7 0;have hfz7_1:=blk_frozen HGz7 1;have hfz7_2:=blk_frozen HGz7 2;clear HGz7 hgz7;go_enter Tryd.func78,Tryd.ntmps78;go_wp2;(repeat (go_quiet (fail);try go_wp2));go_ret;exact ⟨by first|rfl|(simp [errW_none,errW_some] <;> rfl)|(simp [*,errW_none,errW_some] <;> rfl),by repeat (first|(with_reducible first|exact HI0.out|apply IsS90.alloc|apply IsS90.drewN|apply IsS90.drew|apply IsS90.set_0|apply IsS90.set_1|apply IsS90.set_2)|exact HI0.out),by repeat (first|(with_reducible first|exact HB.out|apply bal|apply bdN|apply bd1|refine below_set ?_ (IsS90.ge HI0.out))|exact HB.out),by repeat (first|(with_reducible first|exact HK.out|apply KeepBut.set_|apply keep_drewN|apply keep_drew|apply keep_alloc)|exact HK.out)⟩
   ·rw [if_neg c6] at H;have c6b0:decide ((wrap64 ((s0_0.size:Int) - s0_1)) < a1)=false:=decide_eq_false c6;clear c6;obtain ⟨ji8,hji8⟩:∃ j_:Int,(wrap64 ((wrap64 (s0_1 + a1)) - a1))=j_:=⟨_,rfl⟩;(replace H:(if 0≤(ji8) then (if (ji8)≤(wrap64 (s0_1 + a1)) then (if (wrap64 (s0_1 + a1))≤(s0_0.size:Int) then (some (s0_0.extract ((ji8):Int).toNat ((wrap64 (s0_1 + a1)):Int).toNat,s0_0,wrap64 (s0_1 + a1),s0_2)) else (none)) else (none)) else (none))=some (r1,r2,r3,r4):=by first|(rw [hji8] at H;exact H)|(simp only [hji8] at H ⊢;exact H));have hji8w:(IntKind.i64.wrap ((wrap64 (s0_1 + a1)) - a1))=ji8:=(i64_w _).trans hji8;by_cases c9:0≤(ji8)
    ·rw [if_pos c9] at H;have c9b0:=eq_true c9;have c9b1:decide (0≤(ji8))=true:=decide_eq_true c9;clear c9;by_cases c10:(ji8)≤(wrap64 (s0_1 + a1))
     ·rw [if_pos c10] at H;have c10b0:=eq_true c10;have c10b1:decide ((ji8)≤(wrap64 (s0_1 + a1)))=true:=decide_eq_true c10;by_cases c11:(wrap64 (s0_1 + a1))≤(s0_0.size:Int)
      ·rw [if_pos c11] at H;have c11b0:=eq_true c11;have c11b1:decide ((wrap64 (s0_1 + a1))≤(s0_0.size:Int))=true:=decide_eq_true c11;simp only [Option.some.injEq,Prod.mk.injEq] at H;obtain ⟨rfl,rfl,rfl,rfl⟩:=H;obtain ⟨HGz12,hgz12⟩:=HI0.out;have hcz12_0:=cellS90_0 HGz12;have hcz12_1:=cellS90_1 HGz12;have hcz12_2:=cellS90_2 HGz12;have hfz12_0:=blk_frozen HGz12 0;have hfz12_1:=blk_frozen HGz12 1;have hfz12_2:=blk_frozen HGz12 2;clear HGz12 hgz12;go_enter Tryd.func78,Tryd.ntmps78;go_wp2;(repeat (go_quiet (fail);try go_wp2));go_ret;exact ⟨by first|rfl|(simp [errW_none,errW_some] <;> rfl)|(simp only [← hji8];first|rfl|(simp [errW_none,errW_some] <;> rfl))|(simp [*,errW_none,errW_some] <;> rfl),by repeat (first|(with_reducible first|exact HI0.out|apply IsS90.alloc|apply IsS90.drewN|apply IsS90.drew|apply IsS90.set_0|apply IsS90.set_1|apply IsS90.set_2)|exact HI0.out),by repeat (first|(with_reducible first|exact HB.out|apply bal|apply bdN|apply bd1|refine below_set ?_ (IsS90.ge HI0.out))|exact HB.out),by repeat (first|(with_reducible first|exact HK.out|apply KeepBut.set_|apply keep_drewN|apply keep_drew|apply keep_alloc)|exact HK.out)⟩
      ·rw [if_neg c11] at H;exact absurd H (by simp)
     ·rw [if_neg c10] at H;exact absurd H (by simp)
    ·rw [if_neg c9] at H;exact absurd H (by simp)
 ·rw [if_neg c3] at H;have c3b0:(s0_2 == 0)=false:=beq_eq_false_iff_ne.mpr c3;have c3b1:(s0_2 != 0)=true:=bne_iff_ne.mpr c3;simp only [Option.some.injEq,Prod.mk.injEq] at H;obtain ⟨rfl,rfl,rfl,rfl⟩:=H;obtain ⟨HGz13,hgz13⟩:=HI0.out;have hcz13_0:=cellS90_0 HGz13;have hcz13_1:=cellS90_1 HGz13;have hcz13_2:=cellS90_2 HGz13;have hfz13_0:=blk_frozen HGz13 0;have hfz13_1:=blk_frozen HGz13 1;have hfz13_2:=blk_frozen HGz13 2;clear HGz13 hgz13;go_enter Tryd.func78,Tryd.ntmps78;go_wp2;(repeat (go_quiet (fail);try go_wp2));go_ret;exact ⟨by first|rfl|(simp [errW_none,errW_some] <;> rfl)|(simp [*,errW_none,errW_some] <;> rfl),by repeat (first|(with_reducible first|exact HI0.out|apply IsS90.alloc|apply IsS90.drewN|apply IsS90.drew|apply IsS90.set_0|apply IsS90.set_1|apply IsS90.set_2)|exact HI0.out),by repeat (first|(with_reducible first|exact HB.out|apply bal|apply bdN|apply bd1|refine below_set ?_ (IsS90.ge HI0.out))|exact HB.out),by repeat (first|(with_reducible first|exact HK.out|apply KeepBut.set_|apply keep_drewN|apply keep_drew|apply keep_alloc)|exact HK.out)⟩
def barqueref01_Reader_Text.f (k:Nat) (s0_0:ByteArray) (s0_1:Int) (s0_2:Int) (a1:Int):Option (ByteArray × ByteArray × Int × Int):=(barqueref01_Reader_Count.f k s0_0 s0_1 s0_2 a1).bind fun bt343=>((barqueref01_Reader_Raw.f bt343.2.1 bt343.2.2.1 bt343.2.2.2 bt343.1).bind fun bt347=>(some (bt347.1,bt347.2.1,bt347.2.2.1,bt347.2.2.2)))
set_option maxHeartbeats 8000000 in
set_option maxRecDepth 100000 in
theorem barqueref01_Reader_Text.calls (k:Nat) (g:Nat) (s0_0:ByteArray) (s0_1:Int) (s0_2:Int) (a1:Int) (r1:ByteArray) (r2:ByteArray) (r3:Int) (r4:Int) (w0 w:World) (hI:IsS90 w0 w g s0_0 s0_1 s0_2) (hB:Below w0.heap.size w0 w) (h:barqueref01_Reader_Text.f k s0_0 s0_1 s0_2 a1=some (r1,r2,r3,r4)) :
  Calls Tryd.prog 61 #[.pointer (some ⟨g,0,none⟩),.int .i64 a1] w fun e w'=>e=.returned (.string r1)∧IsS90 w0 w' g r2 r3 r4∧Below w0.heap.size w0 w'∧KeepBut w w' g none:=by
 have HI0:=Aside0.mk hI;have HK:=Aside0.mk (KeepBut.refl w g none);have HL:=Aside0.mk hB.size;clear hI;have HW0:=Aside0.mk hB.size;have HB:=Aside0.mk hB;clear hB;have H:((barqueref01_Reader_Count.f k s0_0 s0_1 s0_2 a1).bind fun bt343=>((barqueref01_Reader_Raw.f bt343.2.1 bt343.2.2.1 bt343.2.2.2 bt343.1).bind fun bt347=>(some (bt347.1,bt347.2.1,bt347.2.2.1,bt347.2.2.2))))=some (r1,r2,r3,r4):=h;clear h;replace H:=Option.bind_eq_some_iff.mp H;obtain ⟨⟨t343,t344,t345,t346⟩,A30,H⟩:=H;replace H:((barqueref01_Reader_Raw.f t344 t345 t346 t343).bind fun bt347=>(some (bt347.1,bt347.2.1,bt347.2.2.1,bt347.2.2.2)))=some (r1,r2,r3,r4):=H;have A3:=Aside0.mk A30;clear A30;replace H:=Option.bind_eq_some_iff.mp H;obtain ⟨⟨t347,t348,t349,t350⟩,A40,H⟩:=H;replace H:(some (t347,t348,t349,t350))=some (r1,r2,r3,r4):=H;have A4:=Aside0.mk A40;clear A40;simp only [Option.some.injEq,Prod.mk.injEq] at H;obtain ⟨rfl,rfl,rfl,rfl⟩:=H;go_enter Tryd.func61,Tryd.ntmps61;go_wp2_with (first|((with_reducible refine gate_callee (f:=60) rfl ?_);refine goesL_ (some 8) rfl rfl Tryd.func60 (by kernel_rfl) rfl #[.pointer (some ⟨g,0,none⟩),.int .i64 a1] rfl (by (try simp only [List.map_toArray,List.map_cons,List.map_nil]);first|done|rfl|(simp only [List.length_drop,List.length_take];rfl)) ?_;(with_reducible refine (barqueref01_Reader_Count.calls k g s0_0 s0_1 s0_2 a1 t343 t344 t345 t346 w0 _ ?side1 ?side2 A3.out).mono ?_);(case side1=>repeat (first|(with_reducible first|exact HI0.out|apply IsS90.alloc|apply IsS90.drewN|apply IsS90.drew|apply IsS90.set_0|apply IsS90.set_1|apply IsS90.set_2)|exact HI0.out));(case side2=>repeat (first|(with_reducible first|exact HB.out|apply bal|apply bdN|apply bd1|refine below_set ?_ (IsS90.ge HI0.out))|exact HB.out));rintro e w5 ⟨rfl,hi,hb,hk⟩;refine ⟨_,rfl,?_⟩;have n0_:=Aside0.mk (KeepBut.trans (by repeat (first|(with_reducible first|exact HK.out|apply KeepBut.set_|apply keep_drewN|apply keep_drew|apply keep_alloc)|exact HK.out)) hk (.inl rfl));have n1_:=Aside0.mk (hb);have n2_:=Aside0.mk (hi);clear HK;clear HB;clear HI0;have HK:=n0_;have HB:=n1_;have HI0:=n2_;clear n0_ n1_ n2_;(try clear hb);(try clear hb2);(try clear hk);(try clear hi))|((with_reducible refine gate_callee (f:=78) rfl ?_);refine goesL_ (some 11) rfl rfl Tryd.func78 (by kernel_rfl) rfl #[.pointer (some ⟨g,0,none⟩),.int .i64 t343] rfl (by (try simp only [List.map_toArray,List.map_cons,List.map_nil]);first|done|rfl|(simp only [List.length_drop,List.length_take];rfl)) ?_;(with_reducible refine (barqueref01_Reader_Raw.calls g t344 t345 t346 t343 t347 t348 t349 t350 w0 _ ?side1 ?side2 A4.out).mono ?_);(case side1=>repeat (first|(with_reducible first|exact HI0.out|apply IsS90.alloc|apply IsS90.drewN|apply IsS90.drew|apply IsS90.set_0|apply IsS90.set_1|apply IsS90.set_2)|exact HI0.out));(case side2=>repeat (first|(with_reducible first|exact HB.out|apply bal|apply bdN|apply bd1|refine below_set ?_ (IsS90.ge HI0.out))|exact HB.out));rintro e w6 ⟨rfl,hi,hb,hk⟩;refine ⟨_,rfl,?_⟩;have n0_:=Aside0.mk (KeepBut.trans (by repeat (first|(with_reducible first|exact HK.out|apply KeepBut.set_|apply keep_drewN|apply keep_drew|apply keep_alloc)|exact HK.out)) hk (.inl rfl));have n1_:=Aside0.mk (hb);have n2_:=Aside0.mk (hi);clear HK;clear HB;clear HI0;have HK:=n0_;have HB:=n1_;have HI0:=n2_;clear n0_ n1_ n2_;(try clear hb);(try clear hb2);(try clear hk);(try clear hi)));go_ret;exact ⟨by first|rfl|(simp [errW_none,errW_some] <;> rfl)|(simp [*,errW_none,errW_some] <;> rfl),by repeat (first|(with_reducible first|exact HI0.out|apply IsS90.alloc|apply IsS90.drewN|apply IsS90.drew|apply IsS90.set_0|apply IsS90.set_1|apply IsS90.set_2)|exact HI0.out),by repeat (first|(with_reducible first|exact HB.out|apply bal|apply bdN|apply bd1|refine below_set ?_ (IsS90.ge HI0.out))|exact HB.out),by repeat (first|(with_reducible first|exact HK.out|apply KeepBut.set_|apply keep_drewN|apply keep_drew|apply keep_alloc)|exact HK.out)⟩
end Go.Proofs.YtmeofdpmddjbgaaDoor.G
end
section
namespace Go.Proofs.YtmeofdpmddjbgaaDoor.G
open Go.RowKit Go.Proofs.YtmeofdpmddjbgaaDoorW.PrintWords Go.Proofs.YtmeofdpmddjbgaaDoorW.PrintLast Go.Proofs.YtmeofdpmddjbgaaDoorW.PrintMore
set_option linter.unusedVariables false
set_option linter.unusedSimpArgs false
theorem refbyte_ (s:ByteArray) (hs:s.size≤140737488351232) (at_:Nat) (h:at_≤s.size):barqueref01_Reader_Byte.f s (at_:Int) 0=if at_ < s.size then some (bt s (at_:Int),s,((at_ + 1:Nat):Int),0) else some (0,s,(at_:Int),3):=by
 unfold barqueref01_Reader_Byte.f
 simp only [↓reduceIte]
 by_cases c:at_ < s.size
 ·have c1:¬ (at_:Int) ≥ (s.size:Int):=by omega
  have c2:(0:Int)≤(at_:Int):=Int.natCast_nonneg _
  have c3:(at_:Int) < (s.size:Int):=by omega
  have w1:wrap64 ((at_:Int) + 1)=((at_ + 1:Nat):Int):=by rw [w64_ (by omega) (by omega)];omega
  have w2:wrap64 (((at_ + 1:Nat):Int) - 1)=(at_:Int):=by clear w1;rw [w64_ (by omega) (by omega)];omega
  have w3:wrap64 (bt s (at_:Int))=bt s (at_:Int):=by
   clear w1 w2
   have:=bt_range s (at_:Int)
   rw [w64_ (by omega) (by omega)]
  simp only [c1,w1,w2,w3,c2,c3,c,↓reduceIte]
 ·have c1:(at_:Int) ≥ (s.size:Int):=by omega
  simp only [c1,c,↓reduceIte]
theorem refnumr_l0 (s:ByteArray) (hs:s.size≤140737488351232):∀ (d i n at_:Nat),9 - i=d→i≤8→n < 128 ^ i→at_≤s.size →
  Ev (fun k=>barqueref01_Reader_Num.l0 k (n:Int) ((128 ^ i:Nat):Int) (i:Int) s (at_:Int) 0) ((numGo s d i n at_).1,s,((numGo s d i n at_).2.1:Int),(numGo s d i n at_).2.2):=by
 intro d
 induction d with
 | zero=>intro i n at_ hd hi hn ha;omega
 | succ d ih =>
  intro i n at_ hd hi hn ha
  have z3:¬ (3:Int)=0:=by decide
  have c9:(i:Int) < 9:=by omega
  apply Ev.step
  ·intro k;rw [barqueref01_Reader_Num.l0]
  simp only [c9,↓reduceIte]
  rw [refbyte_ s hs at_ ha]
  unfold numGo
  by_cases c:at_ < s.size
  ·obtain ⟨b,hb,hb5⟩:=bt_byte_ s (at_:Int)
   simp only [c,↓reduceIte,Option.bind_some]
   rw [hb]
   simp only [Int.toNat_natCast]
   have hj1:∀ t:Bool,t=decide ((i=8∧63 < b)∨(0 < i∧b=0))→Ev (fun k=>barqueref01_Reader_Num.j1 k (n:Int) ((128 ^ i:Nat):Int) (i:Int) (b:Int) t s ((at_ + 1:Nat):Int) 0) ((if (i=8∧63 < b)∨(0 < i∧b=0) then ((0:Int),at_ + 1,(5:Int)) else if b < 128 then (((n + b % 128 * 128 ^ i:Nat):Int),at_ + 1,0) else numGo s d (i + 1) (n + b % 128 * 128 ^ i) (at_ + 1)).1,s,(((if (i=8∧63 < b)∨(0 < i∧b=0) then ((0:Int),at_ + 1,(5:Int)) else if b < 128 then (((n + b % 128 * 128 ^ i:Nat):Int),at_ + 1,0) else numGo s d (i + 1) (n + b % 128 * 128 ^ i) (at_ + 1)).2.1:Nat):Int),(if (i=8∧63 < b)∨(0 < i∧b=0) then ((0:Int),at_ + 1,(5:Int)) else if b < 128 then (((n + b % 128 * 128 ^ i:Nat):Int),at_ + 1,0) else numGo s d (i + 1) (n + b % 128 * 128 ^ i) (at_ + 1)).2.2):=by
    intro t ht
    apply Ev.step
    ·intro k;rw [barqueref01_Reader_Num.j1]
    cases t with
    | true =>
     have g:=of_decide_eq_true ht.symm
     simp only [g,↓reduceIte]
     exact Ev.now _
    | false =>
     have g:=of_decide_eq_false ht.symm
     have q2:i=8→b % 128≤63:=by omega
     have q3:¬ b < 128→9 - (i + 1)=d∧i + 1≤8:=by omega
     have q4:at_ + 1≤s.size:=by omega
     have hpw:=pw_bound_ i b hi q2
     have hnx:=pw_next_ i n b hn
     obtain ⟨P,hP⟩:∃ P,128 ^ i=P:=⟨_,rfl⟩
     have hP8:P≤72057594037927936:=by rw [← hP];exact Nat.le_trans (Nat.pow_le_pow_right (by decide) hi) (by decide)
     rw [hP] at hpw hn
     obtain ⟨X,hX⟩:∃ X,b % 128 * P=X:=⟨_,rfl⟩
     rw [hX] at hpw
     have hlast:n + X≤4611686018427387903:=by
      by_cases e8:i=8
      ·have h63:b % 128 * P≤63 * P:=Nat.mul_le_mul_right _ (q2 e8)
       omega
      ·have hP7:P≤562949953421312:=by rw [← hP];exact Nat.le_trans (Nat.pow_le_pow_right (by decide) (by omega:i≤7)) (by decide)
       have hx:b % 128 * P≤127 * P:=Nat.mul_le_mul_right _ (by omega)
       omega
     have t1:Int.tmod (b:Int) 128=((b % 128:Nat):Int):=by rw [Int.tmod_eq_emod_of_nonneg (Int.natCast_nonneg _)];rfl
     have t2:((b % 128:Nat):Int) * (P:Int)=(X:Int):=by rw [← hX];push_cast;rfl
     have w1:wrap64 (X:Int)=(X:Int):=by rw [w64_ (by omega) (by omega)]
     have w2:wrap64 ((n:Int) + (X:Int))=((n + X:Nat):Int):=by clear w1;rw [w64_ (by omega) (by omega)];omega
     simp only [g,Bool.false_eq_true,↓reduceIte,hP,hX,t1,t2,w1,w2]
     by_cases c2:b < 128
     ·have c3:(b:Int) < 128:=by clear w1 w2;omega
      simp only [c2,c3,↓reduceIte]
      exact Ev.now _
     ·have c3:¬ (b:Int) < 128:=by clear w1 w2;omega
      have hi7:i≤7:=by clear w1 w2;omega
      have hP7:P≤562949953421312:=by rw [← hP];exact Nat.le_trans (Nat.pow_le_pow_right (by decide) hi7) (by decide)
      have w3:wrap64 ((P:Int) * 128)=((128 ^ (i + 1):Nat):Int):=by
       clear w1 w2
       rw [Nat.pow_succ,hP,w64_ (by omega) (by omega)]
       omega
      have w4:wrap64 ((i:Int) + 1)=((i + 1:Nat):Int):=by clear w1 w2 w3;rw [w64_ (by omega) (by omega)];omega
      simp only [c2,c3,w3,w4,↓reduceIte]
      have hn2:n + X < 128 ^ (i + 1):=by rw [← hX,← hP];exact hnx
      exact ih (i + 1) (n + X) (at_ + 1) (q3 c2).1 (q3 c2).2 hn2 q4
   by_cases c4:0 < i
   ·have c5:(i:Int) > 0:=by omega
    simp only [c5,↓reduceIte]
    by_cases c6:b=0
    ·have c7:(b:Int)=0:=by omega
     have hh:=hj1 true (by simp [c4,c6])
     rw [c7] at hh
     simp only [c7,↓reduceIte]
     exact hh
    ·have c7:¬ (b:Int)=0:=by omega
     simp only [c7,↓reduceIte]
     by_cases c8:i=8
     ·have c10:(i:Int)=8:=by omega
      have hh:=hj1 (decide ((b:Int) > 63)) (by
       by_cases q:63 < b
       ·have:(b:Int) > 63:=by omega
        simp [this,c8,q]
       ·have:¬ (b:Int) > 63:=by omega
        simp [this,q,c6])
      rw [c10] at hh ⊢
      simp only [↓reduceIte]
      exact hh
     ·have c10:¬ (i:Int)=8:=by omega
      simp only [c10,↓reduceIte]
      exact hj1 false (by simp [c8,c6])
   ·have c5:¬ (i:Int) > 0:=by omega
    have c8:¬ i=8:=by omega
    have c10:¬ (i:Int)=8:=by omega
    simp only [c5,c10,↓reduceIte]
    exact hj1 false (by simp [c8,c4])
  ·simp only [c,↓reduceIte,Option.bind_some,z3]
   exact Ev.now _
theorem refnumr_ev (s:ByteArray) (hs:s.size≤140737488351232) (at_:Nat) (e:Int) (ha:at_≤s.size):Ev (fun k=>barqueref01_Reader_Num.f k s (at_:Int) e) ((numS s at_ e).1,s,((numS s at_ e).2.1:Int),(numS s at_ e).2.2):=by
 unfold barqueref01_Reader_Num.f numS
 by_cases c:e=0
 ·subst c
  simp only [↓reduceIte]
  exact refnumr_l0 s hs 9 0 0 at_ rfl (by decide) (by decide) ha
 ·have c9:(0:Int) < 9:=by decide
  simp only [c,↓reduceIte]
  apply Ev.step
  ·intro k;rw [barqueref01_Reader_Num.l0]
  simp only [c9,barqueref01_Reader_Byte.f,c,↓reduceIte,Option.bind_some]
  exact Ev.now _
theorem refcount_ev (s:ByteArray) (hs:s.size≤140737488351232) (at_:Nat) (e most:Int) (ha:at_≤s.size):Ev (fun k=>barqueref01_Reader_Count.f k s (at_:Int) e most) ((countS s at_ e most).1,s,((countS s at_ e most).2.1:Int),(countS s at_ e most).2.2):=by
 unfold barqueref01_Reader_Count.f countS
 refine Ev.bind (refnumr_ev s hs at_ e ha) ?_
 obtain ⟨r,hr⟩:∃ r,numS s at_ e=r:=⟨_,rfl⟩
 rw [hr]
 by_cases c:r.2.2=0
 ·simp only [c,true_and,↓reduceIte]
  by_cases c1:most < r.1
  ·have c2:r.1 > most:=c1
   simp only [c1,c2,↓reduceIte]
   exact Ev.now _
  ·have c2:¬ r.1 > most:=c1
   simp only [c1,c2,↓reduceIte,c]
   exact Ev.now _
 ·simp only [c,false_and,↓reduceIte]
  exact Ev.now _
theorem refraw_f (s:ByteArray) (hs:s.size≤140737488351232) (at_:Nat) (e n:Int) (ha:at_≤s.size) (hn : -9223372036854775808≤n∧n≤4611686018427387903):barqueref01_Reader_Raw.f s (at_:Int) e n=some ((rawS s at_ e n).1,s,((rawS s at_ e n).2.1:Int),(rawS s at_ e n).2.2):=by
 unfold barqueref01_Reader_Raw.f rawS
 by_cases c:e=0
 ·subst c
  simp only [↓reduceIte]
  by_cases c1:n < 0
  ·simp only [c1,↓reduceIte]
  ·simp only [c1,↓reduceIte]
   have w0:wrap64 ((s.size:Int) - (at_:Int))=(s.size:Int) - at_:=by rw [w64_ (by omega) (by omega)]
   rw [w0]
   by_cases c2:(s.size:Int) - at_ < n
   ·have c3:n > (s.size:Int) - at_:=c2
    simp only [c2,c3,↓reduceIte]
   ·have c3:¬ n > (s.size:Int) - at_:=c2
    have w1:wrap64 ((at_:Int) + n)=((at_ + n.toNat:Nat):Int):=by clear w0;rw [w64_ (by omega) (by omega)];omega
    have w2:wrap64 (((at_ + n.toNat:Nat):Int) - n)=(at_:Int):=by clear w1 w0;rw [w64_ (by omega) (by omega)];omega
    have c4:(0:Int)≤(at_:Int):=Int.natCast_nonneg _
    have c5:(at_:Int)≤((at_ + n.toNat:Nat):Int):=by clear w1 w2 w0;omega
    have c6:((at_ + n.toNat:Nat):Int)≤(s.size:Int):=by clear w1 w2 w0;omega
    simp only [c2,c3,w1,w2,c4,c5,c6,↓reduceIte,Int.toNat_natCast]
 ·simp only [c,↓reduceIte]
theorem reftextr_ev (s:ByteArray) (hs:s.size≤140737488351232) (at_:Nat) (e most:Int) (ha:at_≤s.size):Ev (fun k=>barqueref01_Reader_Text.f k s (at_:Int) e most) ((textS s at_ e most).1,s,((textS s at_ e most).2.1:Int),(textS s at_ e most).2.2):=by
 unfold barqueref01_Reader_Text.f textS
 have hc:=countS_at s at_ e most ha
 have hr:=countS_range s at_ e most
 refine Ev.bind (refcount_ev s hs at_ e most ha) ?_
 simp only [refraw_f s hs _ _ _ hc.2 ⟨Int.le_trans (by decide) hr.1,hr.2⟩,Option.bind_some]
 exact Ev.now _
end Go.Proofs.YtmeofdpmddjbgaaDoor.G
end
section
namespace Go.Proofs.YtmeofdpmddjbgaaDoor.G
open Go.RowKit Go.Proofs.YtmeofdpmddjbgaaDoorW.PrintWords Go.Proofs.YtmeofdpmddjbgaaDoorW.PrintLast Go.Proofs.YtmeofdpmddjbgaaDoorW.PrintMore
attribute [local go_sem] max2_int min2_int max_two min_two max_three min_three max_four min_four   
set_option linter.unusedVariables false
set_option linter.unusedSimpArgs false
def code_Reader_Err.f (s0_0:ByteArray) (s0_1:Int) (s0_2:Int):Option (Int × ByteArray × Int × Int):=some (s0_2,s0_0,s0_1,s0_2)
set_option maxHeartbeats 8000000 in
set_option maxRecDepth 100000 in
theorem code_Reader_Err.calls (g:Nat) (s0_0:ByteArray) (s0_1:Int) (s0_2:Int) (r1:Int) (r2:ByteArray) (r3:Int) (r4:Int) (w0 w:World) (hI:IsS102 w0 w g s0_0 s0_1 s0_2) (hB:Below w0.heap.size w0 w) (h:code_Reader_Err.f s0_0 s0_1 s0_2=some (r1,r2,r3,r4)) :
  Calls Tryd.prog 58 #[.pointer (some ⟨g,0,none⟩)] w fun e w'=>e=.returned (.int .i64 r1)∧IsS102 w0 w' g r2 r3 r4∧Below w0.heap.size w0 w'∧KeepBut w w' g none:=by
 have HI0:=Aside0.mk hI;have HK:=Aside0.mk (KeepBut.refl w g none);have HL:=Aside0.mk hB.size;clear hI;have HW0:=Aside0.mk hB.size;have HB:=Aside0.mk hB;clear hB;have H:(some (s0_2,s0_0,s0_1,s0_2))=some (r1,r2,r3,r4):=h;clear h;simp only [Option.some.injEq,Prod.mk.injEq] at H;obtain ⟨rfl,rfl,rfl,rfl⟩:=H;obtain ⟨HGz2,hgz2⟩:=HI0.out;have hcz2_0:=cellS102_0 HGz2;have hcz2_1:=cellS102_1 HGz2;have hcz2_2:=cellS102_2 HGz2;have hfz2_0:=blk_frozen HGz2 0;have hfz2_1:=blk_frozen HGz2 1;have hfz2_2:=blk_frozen HGz2 2;clear HGz2 hgz2;go_enter Tryd.func58,Tryd.ntmps58;go_wp2;go_ret;exact ⟨by first|rfl|(simp [errW_none,errW_some] <;> rfl)|(simp [*,errW_none,errW_some] <;> rfl),by repeat (first|(with_reducible first|exact HI0.out|apply IsS102.alloc|apply IsS102.drewN|apply IsS102.drew|apply IsS102.set_0|apply IsS102.set_1|apply IsS102.set_2)|exact HI0.out),by repeat (first|(with_reducible first|exact HB.out|apply bal|apply bdN|apply bd1|refine below_set ?_ (IsS102.ge HI0.out))|exact HB.out),by repeat (first|(with_reducible first|exact HK.out|apply KeepBut.set_|apply keep_drewN|apply keep_drew|apply keep_alloc)|exact HK.out)⟩
end Go.Proofs.YtmeofdpmddjbgaaDoor.G
end
