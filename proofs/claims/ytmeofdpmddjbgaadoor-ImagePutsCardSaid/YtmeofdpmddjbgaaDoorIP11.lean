/- Texts of this session's claim of ImagePuts, less what its theorem does not reach. No condition. -/
import Derived.ArgAppend
import Derived.Below
import Derived.BigQuiet
import Derived.Deep.AppendLies
import Derived.Deep.CutBlock
import Derived.Deep.DeepCutAuto
import Derived.Deep.Draws
import Derived.Deep.LoopGhost
import Derived.Deep.OwnRows
import Derived.Deep.QuietTactic
import Derived.Deep.RegionHeld3
import Derived.KernelRfl
import Derived.Laws.Bits128
import Derived.Laws.BitsLemmas
import Derived.Laws.BytesArg
import Derived.Laws.IdiomCopy
import Derived.Laws.MakeOwn
import Derived.Laws.OwnMore
import Derived.Laws.RangeAny
import Derived.Laws.RangeString
import Derived.Laws.Rows
import Derived.Laws.Slices
import Derived.Laws.StructEq
import Derived.Lib.AppendStr
import Derived.Lib.ConvBytes
import Derived.Lib.SplitLaws
import Derived.Lib.Strings
import Derived.LoopTactic
import Derived.Maps.AppendAt
import Derived.OrdersHeld
import Derived.OwnWalk
import Derived.RowKit
import Derived.RowKit3
import Derived.Shelf.Strings.SplitCore
import Derived.Tactics
import Derived.Test.YtmeofdpmddjbgaaDoorProg
import Derived.WalkKit
import Derived.WideLaws
import Derived.Test.YtmeofdpmddjbgaaDoorIP0
import Derived.Test.YtmeofdpmddjbgaaDoorIP1
import Derived.Test.YtmeofdpmddjbgaaDoorIP2
import Derived.Test.YtmeofdpmddjbgaaDoorIP3
import Derived.Test.YtmeofdpmddjbgaaDoorIP4
import Derived.Test.YtmeofdpmddjbgaaDoorIP5
import Derived.Test.YtmeofdpmddjbgaaDoorIP6
import Derived.Test.YtmeofdpmddjbgaaDoorIP7
import Derived.Test.YtmeofdpmddjbgaaDoorIP8
import Derived.Test.YtmeofdpmddjbgaaDoorIP9
import Derived.Test.YtmeofdpmddjbgaaDoorIP10
section
namespace Go.Proofs.YtmeofdpmddjbgaaDoor.G
open Go.RowKit Go.Proofs.YtmeofdpmddjbgaaDoorW.PrintWords Go.Proofs.YtmeofdpmddjbgaaDoorW.PrintLast Go.Proofs.YtmeofdpmddjbgaaDoorW.PrintMore
attribute [local go_sem] max2_int min2_int max_two min_two max_three min_three max_four min_four   
set_option linter.unusedVariables false
set_option linter.unusedSimpArgs false
def errW:Option Int→Value
 | none=>.nilIface
 | some c=>.iface 0 (.int .i64 c)
theorem errW_none:errW none=.nilIface:=rfl
theorem errW_some (c:Int):errW (some c)=.iface 0 (.int .i64 c):=rfl
theorem info3:(Tryd.prog.info? 3).map (fun i=>(i.zero,i.size,i.bytes))=some (some (.int .i64 0),1,8):=by kernel_rfl
theorem info5:(Tryd.prog.info? 5).map (fun i=>(i.zero,i.size,i.bytes))=some (some (.int .u8 0),1,1):=by kernel_rfl
theorem info9:(Tryd.prog.info? 9).map (fun i=>(i.zero,i.size,i.bytes))=some (some (.string ⟨#[]⟩),1,16):=by kernel_rfl
theorem info33:(Tryd.prog.info? 33).map (fun i=>(i.zero,i.size,i.bytes))=some (some (.agg #[(.string ⟨#[]⟩),(.int .i64 0),(.string ⟨#[]⟩)]),3,40):=by kernel_rfl
structure S33 where
 f0:ByteArray
 f1:Int
 f2:ByteArray
def z33:S33:=⟨(⟨#[]⟩:ByteArray),(0:Int),(⟨#[]⟩:ByteArray)⟩
def k33:Kd S33:=Kd.iso (Kd.pair Kd.string (Kd.pair (Kd.int .i64) Kd.string)) (fun x:S33=>(x.f0,x.f1,x.f2))
theorem k33_open {w:World} {x:S33} {cs:List Value} (h:k33.K w x cs):cs=[.string x.f0,.int .i64 x.f1,.string x.f2]:=by
 obtain ⟨_,_,rfl,rfl,⟨_,_,rfl,rfl,rfl⟩⟩:=h
 exact rfl
theorem k33_openM {w:World} {base:Nat} {ok:Nat→Prop} {x:S33} {cs:List Value} (h:k33.M w base ok x cs):cs=[.string x.f0,.int .i64 x.f1,.string x.f2]:=by
 obtain ⟨_,_,rfl,rfl,⟨_,_,rfl,rfl,rfl⟩⟩:=h
 exact rfl
theorem k33_mkM (w:World) (base:Nat) (ok:Nat→Prop) (x:S33)  : k33.M w base ok x [.string x.f0,.int .i64 x.f1,.string x.f2]:=⟨[.string x.f0],[.int .i64 x.f1,.string x.f2],rfl,rfl,⟨[.int .i64 x.f1],[.string x.f2],rfl,rfl,rfl⟩⟩
def rd_T33 (xs:List S33) (i:Int):S33:=xs.getD i.toNat z33
theorem at_T33 {w:World} {A:Option Addr} {n:Nat} {xs:List S33} (h:Kd.C k33 w A n xs) (i:Int) (h0:0≤i) (h1:i < n):∃ ad , A=some ad∧w.cell? (ad.add (i.toNat * 3))=some (.string (rd_T33 xs i).f0)∧w.cell? ⟨(ad.add (i.toNat * 3)).block,(ad.add (i.toNat * 3)).off + 1,none⟩=some (.int .i64 (rd_T33 xs i).f1)∧w.cell? ⟨(ad.add (i.toNat * 3)).block,(ad.add (i.toNat * 3)).off + 2,none⟩=some (.string (rd_T33 xs i).f2):=by
 obtain ⟨ad,c,e,_,hK,hc0⟩:=Kd.C_get h z33 i h0 h1
 have hc:∀ j u,c[j]?=some u→w.cell? (ad.add (i.toNat * 3 + j))=some u:=hc0
 obtain rfl:=k33_open hK
 exact ⟨ad,e,hc 0 _ rfl,by rw [← add_field _ _ 1 (by omega)];exact hc 1 _ rfl,by rw [← add_field _ _ 2 (by omega)];exact hc 2 _ rfl⟩
structure S75 where
 f0:S33
 f1:Int
def z75:S75:=⟨z33,(0:Int)⟩
def k75:Kd S75:=Kd.iso (Kd.pair k33 (Kd.int .i64)) (fun x:S75=>(x.f0,x.f1))
theorem k75_open {w:World} {x:S75} {cs:List Value} (h:k75.K w x cs):cs=[.string x.f0.f0,.int .i64 x.f0.f1,.string x.f0.f2,.int .i64 x.f1]:=by
 obtain ⟨_,_,rfl,s0,rfl⟩:=h
 obtain rfl:=k33_open s0
 exact rfl
theorem k75_mkM (w:World) (base:Nat) (ok:Nat→Prop) (x:S75)  : k75.M w base ok x [.string x.f0.f0,.int .i64 x.f0.f1,.string x.f0.f2,.int .i64 x.f1]:=⟨[.string x.f0.f0,.int .i64 x.f0.f1,.string x.f0.f2],[.int .i64 x.f1],rfl,(k33_mkM w base ok x.f0 ),rfl⟩
def rd_T75 (xs:List S75) (i:Int):S75:=xs.getD i.toNat z75
theorem at_T75 {w:World} {A:Option Addr} {n:Nat} {xs:List S75} (h:Kd.C k75 w A n xs) (i:Int) (h0:0≤i) (h1:i < n):∃ ad , A=some ad∧w.cell? (ad.add (i.toNat * 4))=some (.string (rd_T75 xs i).f0.f0)∧w.cell? ⟨(ad.add (i.toNat * 4)).block,(ad.add (i.toNat * 4)).off + 1,none⟩=some (.int .i64 (rd_T75 xs i).f0.f1)∧w.cell? ⟨(ad.add (i.toNat * 4)).block,(ad.add (i.toNat * 4)).off + 2,none⟩=some (.string (rd_T75 xs i).f0.f2)∧w.cell? ⟨(ad.add (i.toNat * 4)).block,(ad.add (i.toNat * 4)).off + 3,none⟩=some (.int .i64 (rd_T75 xs i).f1):=by
 obtain ⟨ad,c,e,_,hK,hc0⟩:=Kd.C_get h z75 i h0 h1
 have hc:∀ j u,c[j]?=some u→w.cell? (ad.add (i.toNat * 4 + j))=some u:=hc0
 obtain rfl:=k75_open hK
 exact ⟨ad,e,hc 0 _ rfl,by rw [← add_field _ _ 1 (by omega)];exact hc 1 _ rfl,by rw [← add_field _ _ 2 (by omega)];exact hc 2 _ rfl,by rw [← add_field _ _ 3 (by omega)];exact hc 3 _ rfl⟩
structure S71 where
 f0:(List S75)
 f1:Int

def RowB (e:Nat) (w:World) (g:Nat) (xs:List Int):Prop:=∃ cur:Array Value,w.heap[g]?=some (.cells cur e (cur.size,cur.size + 1))∧xs.length≤cur.size∧∀ j,j < xs.length→cur[j]?=some (.int .u8 (xs.getD j 0))
theorem RowB.cell {e:Nat} {w:World} {g:Nat} {xs:List Int} (h:RowB e w g xs) (j:Nat) (hj:j < xs.length):w.cell? ⟨g,j,none⟩=some (.int .u8 (xs.getD j 0)):=by
 obtain ⟨cur,hb,hl,hc⟩:=h
 simp [World.cell?,hb,hc j hj]
theorem RowB.lt {e:Nat} {w:World} {g:Nat} {xs:List Int} (h:RowB e w g xs):g < w.heap.size:=by
 obtain ⟨cur,hb,_⟩:=h
 exact (Array.getElem?_eq_some_iff.1 hb).1
theorem RowB.set {e:Nat} {w:World} {g:Nat} {xs:List Int} (h:RowB e w g xs) (j:Nat) (v:Int):RowB e (w.setCell ⟨g,j,none⟩ (.int .u8 v)) g (xs.set j v):=by
 have hg:=h.lt
 obtain ⟨cur,hb,hl,hc⟩:=h
 refine ⟨cur.setIfInBounds j (.int .u8 v),?_,by simpa using hl,fun i hi=>?_⟩
 ·have hb':=hb
  rw [Array.getElem?_eq_getElem hg] at hb'
  simp [World.setCell,Array.getElem?_modify,hb]
 ·have hi2:i < xs.length:=by simpa using hi
  by_cases hij:j=i
  ·subst hij
   have h3:j < cur.size:=by omega
   simp [h3,hi2]
  ·simp [Array.getElem?_setIfInBounds_ne hij,hc i hi2,List.getElem?_set_ne hij]
theorem RowB.C {e:Nat} {w:World} {g:Nat} {xs:List Int} (h:RowB e w g xs) (hm:xs.length≤9223372036854775807):Kd.C (Kd.int .u8) w (some ⟨g,0,none⟩) xs.length xs:=by
 refine Kd.C_of_reads (enc:=Value.int .u8) (d:=(0:Int)) (h1:=fun _=>rfl) ⟨rfl,hm,fun _=>⟨⟨g,0,none⟩,rfl,fun j hj=>?_⟩⟩
 rw [add_plain]
 exact h.cell j hj
theorem Kd.C_len_ {α:Type} {d:Kd α} {w:World} {A:Option Addr} {n:Nat} {xs:List α} (h:Kd.C d w A n xs):n≤9223372036854775807:=h.2.1
theorem wrap_succ_ (i n:Nat) (h:i < n) (hn:n≤9223372036854775807):wrap64 ((i:Int) + 1)=((i + 1:Nat):Int):=by
 unfold wrap64
 omega
theorem toList_data_ (s:ByteArray):s.toList=s.data.toList:=Go.Lib.toList_data s
def barqueref09_Names.l0:Nat→ByteArray→List ByteArray→Int→Int→Option (List ByteArray)
 | 0,_,_,_,_=>none
 | k + 1,x0,x3,x4,x5=>if x5≤(x0.size:Int) then (if x5=(x0.size:Int) then (if 0≤x4 then (if x4≤x5 then (if x3.length < 8796093022208 then (barqueref09_Names.l0 k x0 (x3 ++ [x0.extract (x4:Int).toNat (x5:Int).toNat]) (wrap64 (x5 + 1)) (wrap64 (x5 + 1))) else (none)) else (none)) else (none)) else (if 0≤x5 then (if x5 < (x0.size:Int) then (if (bt x0 x5)=47 then (if 0≤x4 then (if x4≤x5 then (if x3.length < 8796093022208 then (barqueref09_Names.l0 k x0 (x3 ++ [x0.extract (x4:Int).toNat (x5:Int).toNat]) (wrap64 (x5 + 1)) (wrap64 (x5 + 1))) else (none)) else (none)) else (none)) else (barqueref09_Names.l0 k x0 x3 x4 (wrap64 (x5 + 1)))) else (none)) else (none))) else (some x3)
def barqueref09_Names.f (k:Nat) (a0:ByteArray):Option (List ByteArray):=barqueref09_Names.l0 k a0 ([]:List ByteArray) 0 0
set_option maxHeartbeats 8000000 in
set_option maxRecDepth 100000 in
theorem barqueref09_Names.calls (k:Nat) (a0:ByteArray) (r:List ByteArray) (w:World) (h:barqueref09_Names.f k a0=some r) :
  Calls Tryd.prog 83 #[.string a0] w fun e w'=>∃ v0_:Value,e=.returned (v0_)∧Kd.R Kd.string 9 w' w.heap.size (fun _=>True) v0_ r∧Below w.heap.size w w':=by
 have HB:=Aside0.mk (Below.refl w.heap.size w);have H:(barqueref09_Names.l0 k a0 ([]:List ByteArray) 0 0)=some r:=h;clear h;have H':=Aside0.mk H;clear H;go_enter Tryd.func83,Tryd.ntmps83;go_wp2;go_loopg [3,4,5] k (fun kq v3 v4 v5 w'=>∃ (x3_1:List ByteArray) (x4_1:Int) (x5_1:Int),v4=.int .i64 x4_1∧v5=.int .i64 x5_1∧Aside0 (barqueref09_Names.l0 kq a0 x3_1 x4_1 x5_1=some r)∧Aside0 (kq≤k)∧Aside0 (Kd.R Kd.string 9 w' w.heap.size (fun _=>True) v3 x3_1)∧Aside0 (Below w.heap.size w w'))
 case atStart=>exact ⟨(([]:List ByteArray)),(0),(0),(by first|rfl|(simp;done)|(simp [*];done)),(by first|rfl|(simp;done)|(simp [*];done)),H',⟨Nat.le_refl _⟩,⟨by first|exact Kd.R_nil _ _ _ _ _|exact Kd.N_nil _ _ _ _ _|exact Kd.V_nil _ _ _ _ _|exact Kd.Q_nil _ _ _ _ _|exact Kd.S_nil _ _ _ _ _⟩,⟨by repeat (first|(with_reducible first|exact HB.out|apply bal|apply bdN|apply bd1)|exact HB.out)⟩⟩
 case round =>
  clear H';obtain ⟨x3_1,x4_1,x5_1,rfl,rfl,HA,HK1,HO_3,HB⟩:=hrel
  cases gk with
  | zero=>exact absurd HA.out (by simp [barqueref09_Names.l0])
  | succ k1 =>
   have H:=HA.out;clear HA;simp only [barqueref09_Names.l0] at H;by_cases c2:x5_1≤(a0.size:Int)
   ·rw [if_pos c2] at H;have c2b0:decide (x5_1≤(a0.size:Int))=true:=decide_eq_true c2;clear c2;by_cases c3:x5_1=(a0.size:Int)
    ·rw [if_pos c3] at H;have c3b0:(x5_1 == (a0.size:Int))=true:=beq_iff_eq.mpr c3;have c3b1:(x5_1 != (a0.size:Int))=false:=bne_eq_false_iff_eq.mpr c3;clear c3;by_cases c4:0≤x4_1
     ·rw [if_pos c4] at H;have c4b0:=eq_true c4;have c4b1:decide (0≤x4_1)=true:=decide_eq_true c4;clear c4;by_cases c5:x4_1≤x5_1
      ·rw [if_pos c5] at H;have c5b0:=eq_true c5;have c5b1:decide (x4_1≤x5_1)=true:=decide_eq_true c5;clear c5;have c6b0:=eq_true (of_decide_eq_true (by first|(with_reducible assumption)|assumption):x5_1≤(a0.size:Int));by_cases c7:x3_1.length < 8796093022208
       ·rw [if_pos c7] at H;have LMc7:=Aside0.mk c7;clear c7;obtain ⟨y135,hy135⟩:∃ y_:List ByteArray,y_=(x3_1 ++ [a0.extract (x4_1:Int).toNat (x5_1:Int).toNat]):=⟨_,rfl⟩;(replace H:(barqueref09_Names.l0 k1 a0 y135 (wrap64 (x5_1 + 1)) (wrap64 (x5_1 + 1)))=some r:=by first|(rw [hy135];with_reducible exact H)|(have H2_:=(Option.bind_some _ _).symm.trans H;rw [hy135];with_reducible exact H2_)|(have H2_:=(Option.bind_some _ _).symm.trans H;with_reducible exact H2_)|with_reducible exact H|(rw [hy135];exact H)|exact H);have Ny135:=Aside0.mk hy135;clear hy135;have H':=Aside0.mk H;clear H;go_wp2_with (first|((with_reducible refine gate_builtin (b:=.append) (xs:=#[.tmp 22,.tmp 27]) rfl ?_);at_builtin;refine Kd.R_append Kd.string (w0:=w) w.heap.size rfl (.tmp 22) (.tmp 27) 43 9 (.string ⟨#[]⟩) 16 rfl Tryd.underlying43 info9 rfl (by decide) (by omega) u3 x3_1 (a0.extract (x4_1:Int).toNat (x5_1:Int).toNat) [.string (a0.extract (x4_1:Int).toNat (x5_1:Int).toNat)] (fun _=>True) (fun _=>False) rfl rfl ?aP (fun _ hk=>hk.elim) ?aF ?aO ?aB ?aS ?aL ?_;(case aP=>exact rfl);(case aB=>exact (by repeat (first|(with_reducible first|exact HB.out|apply bal|apply bdN|apply bd1)|exact HB.out)));(case aF=>exact (fun _ _=>trivial));(case aO=>exact (by (with_reducible repeat (first|apply Kd.R_alloc|apply Kd.R_drewN|apply Kd.R_drew));exact HO_3.out));(case aS=>exact (below_size (by repeat (first|(with_reducible first|exact HB.out|apply bal|apply bdN|apply bd1)|exact HB.out))));(case aL=>have:=LMc7.out;omega);intro v136 w8 ho hb hg hat;rw [← Ny135.out] at ho;have n0_:=Aside0.mk (hb);have n1_:=Aside0.mk (ho);clear HB;clear HO_3;have HB:=n0_;have HO137:=n1_;clear n0_ n1_;clear ho hb hg hat));go_roundg k1
        case measure=>have:=HK1.out;omega
        case rel=>exact ⟨(y135),(wrap64 (x5_1 + 1)),(wrap64 (x5_1 + 1)),(by first|rfl|(simp;done)|(simp [*];done)),(by first|rfl|(simp;done)|(simp [*];done)),H',⟨by have:=HK1.out;omega⟩,⟨by (with_reducible repeat (first|apply Kd.R_alloc|apply Kd.R_drewN|apply Kd.R_drew));exact HO137.out⟩,⟨by repeat (first|(with_reducible first|exact HB.out|apply bal|apply bdN|apply bd1)|exact HB.out)⟩⟩
       ·rw [if_neg c7] at H;exact absurd H (by simp)
      ·rw [if_neg c5] at H;exact absurd H (by simp)
     ·rw [if_neg c4] at H;exact absurd H (by simp)
    ·rw [if_neg c3] at H;have c3b0:(x5_1 == (a0.size:Int))=false:=beq_eq_false_iff_ne.mpr c3;have c3b1:(x5_1 != (a0.size:Int))=true:=bne_iff_ne.mpr c3;by_cases c9:0≤x5_1
     ·rw [if_pos c9] at H;have c9b0:decide (0≤x5_1)=true:=decide_eq_true c9;clear c9;by_cases c10:x5_1 < (a0.size:Int)
      ·rw [if_pos c10] at H;have c10b0:decide (x5_1 < (a0.size:Int))=true:=decide_eq_true c10;clear c10;by_cases c12:(bt a0 x5_1)=47
       ·rw [if_pos c12] at H;have c12b0:((bt a0 x5_1) == 47)=true:=beq_iff_eq.mpr c12;have c12b1:((bt a0 x5_1) != 47)=false:=bne_eq_false_iff_eq.mpr c12;clear c12;by_cases c13:0≤x4_1
        ·rw [if_pos c13] at H;have c13b0:=eq_true c13;have c13b1:decide (0≤x4_1)=true:=decide_eq_true c13;clear c13;by_cases c14:x4_1≤x5_1
         ·rw [if_pos c14] at H;have c14b0:=eq_true c14;have c14b1:decide (x4_1≤x5_1)=true:=decide_eq_true c14;clear c14;have c15b0:=eq_true (of_decide_eq_true (by first|(with_reducible assumption)|assumption):x5_1≤(a0.size:Int));by_cases c16:x3_1.length < 8796093022208
          ·rw [if_pos c16] at H;have LMc16:=Aside0.mk c16;clear c16;obtain ⟨y138,hy138⟩:∃ y_:List ByteArray,y_=(x3_1 ++ [a0.extract (x4_1:Int).toNat (x5_1:Int).toNat]):=⟨_,rfl⟩;(replace H:(barqueref09_Names.l0 k1 a0 y138 (wrap64 (x5_1 + 1)) (wrap64 (x5_1 + 1)))=some r:=by first|(rw [hy138];with_reducible exact H)|(have H2_:=(Option.bind_some _ _).symm.trans H;rw [hy138];with_reducible exact H2_)|(have H2_:=(Option.bind_some _ _).symm.trans H;with_reducible exact H2_)|with_reducible exact H|(rw [hy138];exact H)|exact H);have Ny138:=Aside0.mk hy138;clear hy138;have H':=Aside0.mk H;clear H;have p11:0≤(x5_1:Int):=of_decide_eq_true (by first|(with_reducible assumption)|assumption);have q11:x5_1 < (a0.size:Int):=of_decide_eq_true (by first|(with_reducible assumption)|assumption);have hx11:=bt_at a0 x5_1;replace p11:=eq_true p11;replace q11:=eq_true q11;go_wp2_with (first|((with_reducible refine gate_builtin (b:=.append) (xs:=#[.tmp 22,.tmp 27]) rfl ?_);at_builtin;refine Kd.R_append Kd.string (w0:=w) w.heap.size rfl (.tmp 22) (.tmp 27) 43 9 (.string ⟨#[]⟩) 16 rfl Tryd.underlying43 info9 rfl (by decide) (by omega) u3 x3_1 (a0.extract (x4_1:Int).toNat (x5_1:Int).toNat) [.string (a0.extract (x4_1:Int).toNat (x5_1:Int).toNat)] (fun _=>True) (fun _=>False) rfl rfl ?aP (fun _ hk=>hk.elim) ?aF ?aO ?aB ?aS ?aL ?_;(case aP=>exact rfl);(case aB=>exact (by repeat (first|(with_reducible first|exact HB.out|apply bal|apply bdN|apply bd1)|exact HB.out)));(case aF=>exact (fun _ _=>trivial));(case aO=>exact (by (with_reducible repeat (first|apply Kd.R_alloc|apply Kd.R_drewN|apply Kd.R_drew));exact HO_3.out));(case aS=>exact (below_size (by repeat (first|(with_reducible first|exact HB.out|apply bal|apply bdN|apply bd1)|exact HB.out))));(case aL=>have:=LMc16.out;omega);intro v139 w17 ho hb hg hat;rw [← Ny138.out] at ho;have n0_:=Aside0.mk (hb);have n1_:=Aside0.mk (ho);clear HB;clear HO_3;have HB:=n0_;have HO140:=n1_;clear n0_ n1_;clear ho hb hg hat));go_roundg k1
           case measure=>have:=HK1.out;omega
           case rel=>exact ⟨(y138),(wrap64 (x5_1 + 1)),(wrap64 (x5_1 + 1)),(by first|rfl|(simp;done)|(simp [*];done)),(by first|rfl|(simp;done)|(simp [*];done)),H',⟨by have:=HK1.out;omega⟩,⟨by (with_reducible repeat (first|apply Kd.R_alloc|apply Kd.R_drewN|apply Kd.R_drew));exact HO140.out⟩,⟨by repeat (first|(with_reducible first|exact HB.out|apply bal|apply bdN|apply bd1)|exact HB.out)⟩⟩
          ·rw [if_neg c16] at H;exact absurd H (by simp)
         ·rw [if_neg c14] at H;exact absurd H (by simp)
        ·rw [if_neg c13] at H;exact absurd H (by simp)
       ·rw [if_neg c12] at H;have c12b0:((bt a0 x5_1) == 47)=false:=beq_eq_false_iff_ne.mpr c12;have c12b1:((bt a0 x5_1) != 47)=true:=bne_iff_ne.mpr c12;have H':=Aside0.mk H;clear H;have p11:0≤(x5_1:Int):=of_decide_eq_true (by first|(with_reducible assumption)|assumption);have q11:x5_1 < (a0.size:Int):=of_decide_eq_true (by first|(with_reducible assumption)|assumption);have hx11:=bt_at a0 x5_1;replace p11:=eq_true p11;replace q11:=eq_true q11;go_wp2;go_roundg k1
        case measure=>have:=HK1.out;omega
        case rel=>exact ⟨(x3_1),(x4_1),(wrap64 (x5_1 + 1)),(by first|rfl|(simp;done)|(simp [*];done)),(by first|rfl|(simp;done)|(simp [*];done)),H',⟨by have:=HK1.out;omega⟩,⟨by (with_reducible repeat (first|apply Kd.R_alloc|apply Kd.R_drewN|apply Kd.R_drew));exact HO_3.out⟩,⟨by repeat (first|(with_reducible first|exact HB.out|apply bal|apply bdN|apply bd1)|exact HB.out)⟩⟩
      ·rw [if_neg c10] at H;exact absurd H (by simp)
     ·rw [if_neg c9] at H;exact absurd H (by simp)
   ·rw [if_neg c2] at H;have c2b0:decide (x5_1≤(a0.size:Int))=false:=decide_eq_false c2;clear c2;obtain rfl:=Option.some.inj H;go_wp2;go_ret;exact ⟨_,by first|rfl|(simp [errW_none,errW_some] <;> rfl)|(simp [*,errW_none,errW_some] <;> rfl),by (with_reducible repeat (first|apply Kd.R_alloc|apply Kd.R_drewN|apply Kd.R_drew));exact HO_3.out,by repeat (first|(with_reducible first|exact HB.out|apply bal|apply bdN|apply bd1)|exact HB.out)⟩
mutual
def barqueref09_name.j0:Nat→ByteArray→Bool→Option (Bool)
 | 0,_,_=>none
 | k + 1,x0,x18=>if x18=true then (some false) else (barqueref09_name.l0 k x0 0)
def barqueref09_name.l0:Nat→ByteArray→Int→Option (Bool)
 | 0,_,_=>none
 | k + 1,x0,x3=>if x3 < (x0.size:Int) then (if 0≤x3 then (if (bt x0 x3) < 33 then (some false) else (if (bt x0 x3) > 126 then (some false) else (barqueref09_name.l0 k x0 (wrap64 (x3 + 1))))) else (none)) else (some true)
end
def barqueref09_name.f (k:Nat) (a0:ByteArray):Option (Bool):=if a0.toList=([]:List UInt8) then (barqueref09_name.j0 k a0 true) else (if a0.toList=([46]:List UInt8) then (barqueref09_name.j0 k a0 true) else (if a0.toList=([46,46]:List UInt8) then (barqueref09_name.j0 k a0 true) else (barqueref09_name.j0 k a0 (decide ((a0.size:Int) > 32)))))
set_option maxHeartbeats 8000000 in
set_option maxRecDepth 100000 in
theorem barqueref09_name.calls (k:Nat) (a0:ByteArray) (r:Bool) (w:World) (h:barqueref09_name.f k a0=some r) :
  Calls Tryd.prog 84 #[.string a0] w fun e w'=>e=.returned (.bool r)∧Drawn0 w w':=by
 have H:(if a0.toList=([]:List UInt8) then (barqueref09_name.j0 k a0 true) else (if a0.toList=([46]:List UInt8) then (barqueref09_name.j0 k a0 true) else (if a0.toList=([46,46]:List UInt8) then (barqueref09_name.j0 k a0 true) else (barqueref09_name.j0 k a0 (decide ((a0.size:Int) > 32))))))=some r:=h;clear h;have HC2:=Aside0.mk H;clear H;go_enter Tryd.func84,Tryd.ntmps84;go_upto_region 1 with (fail);go_cut [18] (fun v18 wc=>∃ (kq:Nat) (x18_1:Bool),v18=.bool x18_1∧Aside0 (barqueref09_name.j0 kq a0 x18_1=some r)∧Aside0 (kq≤k)∧Drawn0 w wc)
 case first =>
  have H:=HC2.out;clear HC2;by_cases c3:a0.toList=([]:List UInt8)
  ·rw [if_pos c3] at H;have c3b0:(a0.toList == ([]:List UInt8))=true:=beq_iff_eq.mpr c3;have c3b1:(a0.toList != ([]:List UInt8))=false:=bne_eq_false_iff_eq.mpr c3;clear c3;(first|rw [c3b0]|(simp only [i64_w,i32_w];rw [c3b0])|skip);have H':=Aside0.mk H;clear H;go_wp2;go_meet
   case rel=>exact ⟨_,(true),(by first|rfl|(simp;done)|(simp [*];done)),H',⟨by first|omega|exact Nat.le_refl _⟩,by repeat (first|exact Drawn0.refl _|apply Drawn0.step)⟩
  ·rw [if_neg c3] at H;have c3b0:(a0.toList == ([]:List UInt8))=false:=beq_eq_false_iff_ne.mpr c3;have c3b1:(a0.toList != ([]:List UInt8))=true:=bne_iff_ne.mpr c3;(first|rw [c3b0]|(simp only [i64_w,i32_w];rw [c3b0])|skip);by_cases c4:a0.toList=([46]:List UInt8)
   ·rw [if_pos c4] at H;have c4b0:(a0.toList == ([46]:List UInt8))=true:=beq_iff_eq.mpr c4;have c4b1:(a0.toList != ([46]:List UInt8))=false:=bne_eq_false_iff_eq.mpr c4;clear c4;have H':=Aside0.mk H;clear H;go_wp2;go_meet
    case rel=>exact ⟨_,(true),(by first|rfl|(simp;done)|(simp [*];done)),H',⟨by first|omega|exact Nat.le_refl _⟩,by repeat (first|exact Drawn0.refl _|apply Drawn0.step)⟩
   ·rw [if_neg c4] at H;have c4b0:(a0.toList == ([46]:List UInt8))=false:=beq_eq_false_iff_ne.mpr c4;have c4b1:(a0.toList != ([46]:List UInt8))=true:=bne_iff_ne.mpr c4;by_cases c5:a0.toList=([46,46]:List UInt8)
    ·rw [if_pos c5] at H;have c5b0:(a0.toList == ([46,46]:List UInt8))=true:=beq_iff_eq.mpr c5;have c5b1:(a0.toList != ([46,46]:List UInt8))=false:=bne_eq_false_iff_eq.mpr c5;clear c5;have H':=Aside0.mk H;clear H;go_wp2;go_meet
     case rel=>exact ⟨_,(true),(by first|rfl|(simp;done)|(simp [*];done)),H',⟨by first|omega|exact Nat.le_refl _⟩,by repeat (first|exact Drawn0.refl _|apply Drawn0.step)⟩
    ·rw [if_neg c5] at H;have c5b0:(a0.toList == ([46,46]:List UInt8))=false:=beq_eq_false_iff_ne.mpr c5;have c5b1:(a0.toList != ([46,46]:List UInt8))=true:=bne_iff_ne.mpr c5;have H':=Aside0.mk H;clear H;go_wp2;go_meet
     case rel=>exact ⟨_,(decide ((a0.size:Int) > 32)),(by first|rfl|(simp;done)|(simp [*];done)),H',⟨by first|omega|exact Nat.le_refl _⟩,by repeat (first|exact Drawn0.refl _|apply Drawn0.step)⟩
 case rest =>
  clear HC2;(try clear p2);(try clear c3);(try clear c3b0);(try clear c3b1);(try clear c4);(try clear c4b0);(try clear c4b1);(try clear c5);(try clear c5b0);(try clear c5b1);obtain ⟨kq,x18_1,rfl,HA,HJ1,⟨mc1,rfl⟩⟩:=hcut
  cases kq with
  | zero=>exact absurd HA.out (by simp [barqueref09_name.j0])
  | succ kj1 =>
   have H:=HA.out;clear HA;simp only [barqueref09_name.j0] at H;by_cases c6:x18_1=true
   ·subst c6;(have H1:(some false)=some r:=by rw [if_pos rfl] at H;exact H);clear H;have H:=H1;clear H1;obtain rfl:=Option.some.inj H;go_wp2;go_ret;exact ⟨by first|rfl|(simp;done)|(simp [*];done),by repeat (first|exact Drawn0.refl _|apply Drawn0.step)⟩
   ·replace c6:=Bool.eq_false_iff.mpr c6;subst c6;(have H1:(barqueref09_name.l0 kj1 a0 0)=some r:=by rw [if_neg (show ¬ (false=true) by decide)] at H;exact H);clear H;have H:=H1;clear H1;have H':=Aside0.mk H;clear H;go_wp2;go_loopg [3] kj1 (fun kq v3 w'=>∃ (x3_2:Int),v3=.int .i64 x3_2∧Aside0 (barqueref09_name.l0 kq a0 x3_2=some r)∧Aside0 (kq≤kj1)∧Drawn0 w w')
    case atStart=>exact ⟨(0),(by first|rfl|(simp;done)|(simp [*];done)),H',⟨Nat.le_refl _⟩,by repeat (first|exact Drawn0.refl _|apply Drawn0.step)⟩
    case round =>
     clear H';(try clear c1);(try clear p2);(try clear c3);(try clear c3b0);(try clear c3b1);(try clear c4);(try clear c4b0);(try clear c4b1);(try clear c5);(try clear c5b0);(try clear c5b1);(try clear c6);(try clear p2);obtain ⟨x3_2,rfl,HA,HK2,⟨m2,rfl⟩⟩:=hrel
     cases gk with
     | zero=>exact absurd HA.out (by simp [barqueref09_name.l0])
     | succ k2 =>
      have H:=HA.out;clear HA;simp only [barqueref09_name.l0] at H;by_cases c7:x3_2 < (a0.size:Int)
      ·rw [if_pos c7] at H;have c7b0:decide (x3_2 < (a0.size:Int))=true:=decide_eq_true c7;clear c7;by_cases c8:0≤x3_2
       ·rw [if_pos c8] at H;have c8b0:decide (0≤x3_2)=true:=decide_eq_true c8;clear c8;by_cases c10:(bt a0 x3_2) < 33
        ·rw [if_pos c10] at H;have c10b0:decide ((bt a0 x3_2) < 33)=true:=decide_eq_true c10;clear c10;obtain rfl:=Option.some.inj H;have p9:0≤(x3_2:Int):=of_decide_eq_true (by first|(with_reducible assumption)|assumption);have q9:x3_2 < (a0.size:Int):=of_decide_eq_true (by first|(with_reducible assumption)|assumption);have hx9:=bt_at a0 x3_2;replace p9:=eq_true p9;replace q9:=eq_true q9;go_wp2;go_ret;exact ⟨by first|rfl|(simp;done)|(simp [*];done),by repeat (first|exact Drawn0.refl _|apply Drawn0.step)⟩
        ·rw [if_neg c10] at H;have c10b0:decide ((bt a0 x3_2) < 33)=false:=decide_eq_false c10;clear c10;by_cases c12:(bt a0 x3_2) > 126
         ·rw [if_pos c12] at H;have c12b0:decide (126 < (bt a0 x3_2))=true:=decide_eq_true c12;clear c12;obtain rfl:=Option.some.inj H;have p9:0≤(x3_2:Int):=of_decide_eq_true (by first|(with_reducible assumption)|assumption);have q9:x3_2 < (a0.size:Int):=of_decide_eq_true (by first|(with_reducible assumption)|assumption);have hx9:=bt_at a0 x3_2;replace p9:=eq_true p9;replace q9:=eq_true q9;have p11:0≤(x3_2:Int):=of_decide_eq_true (by first|(with_reducible assumption)|assumption);have q11:x3_2 < (a0.size:Int):=of_decide_eq_true (by first|(with_reducible assumption)|assumption);have hx11:=bt_at a0 x3_2;replace p11:=eq_true p11;replace q11:=eq_true q11;go_wp2;go_ret;exact ⟨by first|rfl|(simp;done)|(simp [*];done),by repeat (first|exact Drawn0.refl _|apply Drawn0.step)⟩
         ·rw [if_neg c12] at H;have c12b0:decide (126 < (bt a0 x3_2))=false:=decide_eq_false c12;clear c12;have H':=Aside0.mk H;clear H;have p9:0≤(x3_2:Int):=of_decide_eq_true (by first|(with_reducible assumption)|assumption);have q9:x3_2 < (a0.size:Int):=of_decide_eq_true (by first|(with_reducible assumption)|assumption);have hx9:=bt_at a0 x3_2;replace p9:=eq_true p9;replace q9:=eq_true q9;have p11:0≤(x3_2:Int):=of_decide_eq_true (by first|(with_reducible assumption)|assumption);have q11:x3_2 < (a0.size:Int):=of_decide_eq_true (by first|(with_reducible assumption)|assumption);have hx11:=bt_at a0 x3_2;replace p11:=eq_true p11;replace q11:=eq_true q11;go_wp2;go_roundg k2
          case measure=>have:=HJ1.out;have:=HK2.out;omega
          case rel=>exact ⟨(wrap64 (x3_2 + 1)),(by first|rfl|(simp;done)|(simp [*];done)),H',⟨by have:=HJ1.out;have:=HK2.out;omega⟩,by repeat (first|exact Drawn0.refl _|apply Drawn0.step)⟩
       ·rw [if_neg c8] at H;exact absurd H (by simp)
      ·rw [if_neg c7] at H;have c7b0:decide (x3_2 < (a0.size:Int))=false:=decide_eq_false c7;clear c7;obtain rfl:=Option.some.inj H;go_wp2;go_ret;exact ⟨by first|rfl|(simp;done)|(simp [*];done),by repeat (first|exact Drawn0.refl _|apply Drawn0.step)⟩
def barqueref09_Path.l0:Nat→List ByteArray→Int→Option (Int)
 | 0,_,_=>none
 | k + 1,x3,x4=>if x4 < (x3.length:Int) then (if 0≤x4 then ((barqueref09_name.f k (rdOf ByteArray.empty x3 x4)).bind fun t145=>(if t145=true then (barqueref09_Path.l0 k x3 (wrap64 (x4 + 1))) else (some 10))) else (none)) else (some 0)
def barqueref09_Path.f (k:Nat) (a0:ByteArray):Option (Int):=if (a0.size:Int) > 200 then (some 4) else ((barqueref09_Names.f k a0).bind fun t141=>(barqueref09_Path.l0 k t141 0))
set_option maxHeartbeats 8000000 in
set_option maxRecDepth 100000 in
theorem barqueref09_Path.calls (k:Nat) (a0:ByteArray) (r:Int) (w:World) (h:barqueref09_Path.f k a0=some r) :
  Calls Tryd.prog 73 #[.string a0] w fun e w'=>e=.returned (.int .i64 r)∧Below w.heap.size w w':=by
 have HB:=Aside0.mk (Below.refl w.heap.size w);have H:(if (a0.size:Int) > 200 then (some 4) else ((barqueref09_Names.f k a0).bind fun t141=>(barqueref09_Path.l0 k t141 0)))=some r:=h;clear h;by_cases c2:(a0.size:Int) > 200
 ·rw [if_pos c2] at H;have c2b0:decide (200 < (a0.size:Int))=true:=decide_eq_true c2;have c2b1:decide (200 < a0.size)=true:=decide_eq_true (by omega);clear c2;obtain rfl:=Option.some.inj H;go_enter Tryd.func73,Tryd.ntmps73;go_wp2;go_ret;exact ⟨by first|rfl|(simp [errW_none,errW_some] <;> rfl)|(simp [*,errW_none,errW_some] <;> rfl),by repeat (first|(with_reducible first|exact HB.out|apply bal|apply bdN|apply bd1)|exact HB.out)⟩
 ·rw [if_neg c2] at H;have c2b0:decide (200 < (a0.size:Int))=false:=decide_eq_false c2;have c2b1:decide (200 < a0.size)=false:=decide_eq_false (by omega);clear c2;replace H:=Option.bind_eq_some_iff.mp H;obtain ⟨t141,A30,H⟩:=H;replace H:(barqueref09_Path.l0 k t141 0)=some r:=H;have A3:=Aside0.mk A30;clear A30;have H':=Aside0.mk H;clear H;go_enter Tryd.func73,Tryd.ntmps73;go_wp2_with (first|((with_reducible refine gate_callee (f:=83) rfl ?_);refine goesL_ (some 9) rfl rfl Tryd.func83 (by kernel_rfl) rfl #[.string a0] rfl (by (try simp only [List.map_toArray,List.map_cons,List.map_nil]);first|done|rfl|(simp only [List.length_drop,List.length_take];rfl)) ?_;(with_reducible refine (barqueref09_Names.calls k a0 t141 _ A3.out).mono ?_);rintro e w4 ⟨v142,rfl,ho0,hb⟩;refine ⟨_,rfl,?_⟩;have n0_:=Aside0.mk (Kd.R_lower ho0 (below_size (by repeat (first|(with_reducible first|exact HB.out|apply bal|apply bdN|apply bd1)|exact HB.out))));have n1_:=Aside0.mk (below_step (by repeat (first|(with_reducible first|exact HB.out|apply bal|apply bdN|apply bd1)|exact HB.out)) hb);clear HB;have HO143:=n0_;have HB:=n1_;clear n0_ n1_;(try clear hb);(try clear hb2);(try clear hk);(try clear hi);(try clear ho0)));go_loopg [4] k (fun kq v4 w'=>∃ (x4_1:Int),v4=.int .i64 x4_1∧Aside0 (barqueref09_Path.l0 kq t141 x4_1=some r)∧Aside0 (kq≤k)∧Aside0 (Kd.R Kd.string 9 w' w.heap.size (fun _=>True) v142 t141)∧Aside0 (Below w.heap.size w w'))
  case atStart=>exact ⟨(0),(by first|rfl|(simp;done)|(simp [*];done)),H',⟨Nat.le_refl _⟩,⟨by (with_reducible repeat (first|apply Kd.R_alloc|apply Kd.R_drewN|apply Kd.R_drew));exact HO143.out⟩,⟨by repeat (first|(with_reducible first|exact HB.out|apply bal|apply bdN|apply bd1)|exact HB.out)⟩⟩
  case round =>
   clear H';(try clear c2);(try clear c2b0);(try clear c2b1);(try clear p2);obtain ⟨x4_1,rfl,HA,HK1,HO_3,HB⟩:=hrel
   cases gk with
   | zero=>exact absurd HA.out (by simp [barqueref09_Path.l0])
   | succ k1 =>
    have H:=HA.out;clear HA;simp only [barqueref09_Path.l0] at H;by_cases c5:x4_1 < (t141.length:Int)
    ·rw [if_pos c5] at H;have c5b0:decide (x4_1 < (t141.length:Int))=true:=decide_eq_true c5;clear c5;by_cases c6:0≤x4_1
     ·rw [if_pos c6] at H;have c6b0:decide (0≤x4_1)=true:=decide_eq_true c6;clear c6;replace H:=Option.bind_eq_some_iff.mp H;obtain ⟨t145,A70,H⟩:=H;replace H:(if t145=true then (barqueref09_Path.l0 k1 t141 (wrap64 (x4_1 + 1))) else (some 10))=some r:=H;have A7:=Aside0.mk A70;clear A70;by_cases c8:t145=true
      ·subst c8;(have H1:(barqueref09_Path.l0 k1 t141 (wrap64 (x4_1 + 1)))=some r:=by rw [if_pos rfl] at H;exact H);clear H;have H:=H1;clear H1;have H':=Aside0.mk H;clear H;obtain ⟨Ao9,co9,eo9⟩:=Kd.R_slice HO_3.out;subst eo9;have p144:0≤(x4_1:Int):=of_decide_eq_true (by first|(with_reducible assumption)|assumption);have q144:x4_1 < (t141.length:Int):=of_decide_eq_true (by first|(with_reducible assumption)|assumption);obtain ⟨ad144,e144,hx144_0⟩:=Kd.at_string (Kd.R_reads' HO_3.out).2.2 x4_1 p144 q144;cases e144;replace p144:=eq_true p144;replace q144:=eq_true q144;go_wp2_with (first|((with_reducible refine gate_callee (f:=84) rfl ?_);refine goesL_ (some 20) rfl rfl Tryd.func84 (by kernel_rfl) rfl #[.string (rdOf ByteArray.empty t141 x4_1)] rfl (by (try simp only [List.map_toArray,List.map_cons,List.map_nil]);first|done|rfl|(simp only [List.length_drop,List.length_take];rfl)) ?_;(with_reducible refine (barqueref09_name.calls k1 (rdOf ByteArray.empty t141 x4_1) true _ A7.out).mono ?_);rintro e w' ⟨rfl,⟨nd,rfl⟩⟩;refine ⟨_,rfl,?_⟩));go_roundg k1
       case measure=>have:=HK1.out;omega
       case rel=>exact ⟨(wrap64 (x4_1 + 1)),(by first|rfl|(simp;done)|(simp [*];done)),H',⟨by have:=HK1.out;omega⟩,⟨by (with_reducible repeat (first|apply Kd.R_alloc|apply Kd.R_drewN|apply Kd.R_drew));exact HO_3.out⟩,⟨by repeat (first|(with_reducible first|exact HB.out|apply bal|apply bdN|apply bd1)|exact HB.out)⟩⟩
      ·replace c8:=Bool.eq_false_iff.mpr c8;subst c8;(have H1:(some 10)=some r:=by rw [if_neg (show ¬ (false=true) by decide)] at H;exact H);clear H;have H:=H1;clear H1;obtain rfl:=Option.some.inj H;obtain ⟨Ao10,co10,eo10⟩:=Kd.R_slice HO_3.out;subst eo10;have p144:0≤(x4_1:Int):=of_decide_eq_true (by first|(with_reducible assumption)|assumption);have q144:x4_1 < (t141.length:Int):=of_decide_eq_true (by first|(with_reducible assumption)|assumption);obtain ⟨ad144,e144,hx144_0⟩:=Kd.at_string (Kd.R_reads' HO_3.out).2.2 x4_1 p144 q144;cases e144;replace p144:=eq_true p144;replace q144:=eq_true q144;go_wp2_with (first|((with_reducible refine gate_callee (f:=84) rfl ?_);refine goesL_ (some 20) rfl rfl Tryd.func84 (by kernel_rfl) rfl #[.string (rdOf ByteArray.empty t141 x4_1)] rfl (by (try simp only [List.map_toArray,List.map_cons,List.map_nil]);first|done|rfl|(simp only [List.length_drop,List.length_take];rfl)) ?_;(with_reducible refine (barqueref09_name.calls k1 (rdOf ByteArray.empty t141 x4_1) false _ A7.out).mono ?_);rintro e w' ⟨rfl,⟨nd,rfl⟩⟩;refine ⟨_,rfl,?_⟩));go_ret;exact ⟨by first|rfl|(simp [errW_none,errW_some] <;> rfl)|(simp [*,errW_none,errW_some] <;> rfl),by repeat (first|(with_reducible first|exact HB.out|apply bal|apply bdN|apply bd1)|exact HB.out)⟩
     ·rw [if_neg c6] at H;exact absurd H (by simp)
    ·rw [if_neg c5] at H;have c5b0:decide (x4_1 < (t141.length:Int))=false:=decide_eq_false c5;clear c5;obtain rfl:=Option.some.inj H;obtain ⟨Ao11,co11,eo11⟩:=Kd.R_slice HO_3.out;subst eo11;go_wp2;go_ret;exact ⟨by first|rfl|(simp [errW_none,errW_some] <;> rfl)|(simp [*,errW_none,errW_some] <;> rfl),by repeat (first|(with_reducible first|exact HB.out|apply bal|apply bdN|apply bd1)|exact HB.out)⟩
end Go.Proofs.YtmeofdpmddjbgaaDoor.G
end
section
namespace Go.Proofs.YtmeofdpmddjbgaaDoor.G
open Go.RowKit Go.Proofs.YtmeofdpmddjbgaaDoorW.PrintWords Go.Proofs.YtmeofdpmddjbgaaDoorW.PrintLast Go.Proofs.YtmeofdpmddjbgaaDoorW.PrintMore
attribute [local go_sem] max2_int min2_int max_two min_two max_three min_three max_four min_four   
set_option linter.unusedVariables false
set_option linter.unusedSimpArgs false

def splitSlash:List UInt8→List UInt8→List (List UInt8)
 | acc,[]=>[acc]
 | acc,c :: s=>if c=47 then acc :: splitSlash [] s else splitSlash (acc ++ [c]) s
def names_ (s:ByteArray):List ByteArray:=(splitSlash [] s.data.toList).map fun l=>⟨l.toArray⟩
theorem splitSlash_miss:∀ (l acc:List UInt8),47 ∉ l→splitSlash acc l=[acc ++ l]
 | [],acc,_=>by simp [splitSlash]
 | c :: l,acc,h=>by
  have hc:c ≠ 47:=fun e=>h (by simp [e])
  rw [splitSlash,if_neg hc,splitSlash_miss l _ (fun e=>h (by simp [e]))]
  simp
theorem splitSlash_hit:∀ (a b acc:List UInt8),47 ∉ a→splitSlash acc (a ++ 47 :: b)=(acc ++ a) :: splitSlash [] b
 | [],b,acc,_=>by simp [splitSlash]
 | c :: a,b,acc,h=>by
  have hc:c ≠ 47:=fun e=>h (by simp [e])
  rw [List.cons_append,splitSlash,if_neg hc,splitSlash_hit a b _ (fun e=>h (by simp [e]))]
  simp
theorem mem_first_:∀ (l:List UInt8),47 ∈ l→∃ a b,l=a ++ 47 :: b∧47 ∉ a
 | [],h=>by cases h
 | c :: l,h=>by
  by_cases hc:c=47
  ·exact ⟨[],l,by rw [hc];rfl,by simp⟩
  ·obtain ⟨a,b,rfl,ha⟩:=mem_first_ l (by rcases List.mem_cons.1 h with e|e;exact absurd e.symm hc;exact e)
   exact ⟨c :: a,b,rfl,fun e=>by rcases List.mem_cons.1 e with e|e;exact hc e.symm;exact ha e⟩
theorem splitSlash_length:∀ (l acc:List UInt8),(splitSlash acc l).length≤l.length + 1
 | [],acc=>by simp [splitSlash]
 | c :: l,acc=>by
  unfold splitSlash
  split
  ·have:=splitSlash_length l []
   simp only [List.length_cons];omega
  ·have:=splitSlash_length l (acc ++ [c])
   simp only [List.length_cons];omega
theorem names_length_ (s:ByteArray):(names_ s).length≤s.size + 1:=by
 have:=splitSlash_length s.data.toList []
 unfold names_
 rw [List.length_map]
 simpa using this
theorem indexByte_hit_:∀ (a b:List UInt8) (c:UInt8),c ∉ a→Lib.indexByte (a ++ c :: b) c=a.length
 | [],b,c,_=>by simp [Lib.indexByte]
 | d :: a,b,c,h=>by
  have hb:(d == c)=false:=by
   rw [beq_eq_false_iff_ne]
   exact fun e=>h (by simp [e])
  rw [List.cons_append,Lib.indexByte,hb,indexByte_hit_ a b c (fun e=>h (by simp [e]))]
  have:((a.length:Int) == -1)=false:=by rw [beq_eq_false_iff_ne];omega
  rw [this]
  simp
theorem splitK_slash_:∀ (n:Nat) (l:List UInt8),l.length≤n→Lib.splitK [47] 0 (l.count 47) l=splitSlash [] l:=by
 intro n
 induction n with
 | zero =>
  intro l h
  have:l=[]:=List.eq_nil_of_length_eq_zero (by omega)
  subst this
  rfl
 | succ n ih =>
  intro l h
  by_cases hm:47 ∈ l
  ·obtain ⟨a,b,rfl,ha⟩:=mem_first_ l hm
   rw [splitSlash_hit a b [] ha]
   have hc:(a ++ 47 :: b).count 47=b.count 47 + 1:=by
    rw [List.count_append,List.count_eq_zero.2 ha,List.count_cons_self]
    omega
   rw [hc,Lib.splitK,Lib.index_one,indexByte_hit_ a b 47 ha]
   have:((a.length:Int) == -1)=false:=by rw [beq_eq_false_iff_ne];omega
   rw [this]
   simp only [Bool.false_eq_true,if_false]
   have h1:((a.length:Int)).toNat + 0=a.length:=by omega
   have h2:((a.length:Int)).toNat + ([47]:List UInt8).length=(a ++ [47]).length:=by simp
   rw [h1,h2,List.take_left,show a ++ 47 :: b=(a ++ [47]) ++ b by simp,List.drop_left]
   rw [ih b (by simp at h;omega)]
   rfl
  ·rw [splitSlash_miss l [] hm,List.count_eq_zero.2 hm]
   rfl
theorem split_names_ (s:ByteArray):Lib.splitB ⟨#[47]⟩ 0 (Lib.countB s ⟨#[47]⟩) s=names_ s:=by
 have h:=Lib.splitB_data ⟨#[47]⟩ 0 (Lib.countB s ⟨#[47]⟩) s
 have hc:Lib.countB s ⟨#[47]⟩=s.data.toList.count 47:=Lib.count_one 47 s.data.toList
 have hk:(Lib.splitB ⟨#[47]⟩ 0 (Lib.countB s ⟨#[47]⟩) s).map (·.data.toList)=splitSlash [] s.data.toList:=by
  rw [h,hc]
  exact splitK_slash_ _ _ (Nat.le_refl _)
 unfold names_
 rw [← hk,List.map_map]
 exact (List.map_id'' (fun x=>by cases x;rfl) _).symm
def strings_Split.f (a0 a1:ByteArray):Option (List ByteArray):=if a1.data.toList=[47]∧a0.size < 4294967281 then some (names_ a0) else none
set_option maxHeartbeats 2000000 in
set_option maxRecDepth 100000 in
theorem split_walk_ (s:ByteArray) (w:World) (hs:s.size < 4294967281) :
  Calls Tryd.prog 81 #[.string s,.string ⟨#[47]⟩] w fun e w'=>e=.returned (.slice (some ⟨w.heap.size,0,none⟩) (names_ s).length (names_ s).length)∧w'=w.alloc (.cells ((names_ s).map Value.string).toArray 9):=by
 have hle:=Lib.countB_le ⟨#[47]⟩ (Nat.le_refl _) s.size s (Nat.le_refl _)
 have hlen:=Lib.splitB_all ⟨#[47]⟩ (Nat.le_refl _) 0 _ s rfl
 have c:=Any.strings_genSplit_core Tryd.lays221 (by kernel_rfl) s ⟨#[47]⟩ 0 (-1) (Lib.countB s ⟨#[47]⟩ + 1) w hs (Nat.le_refl _) (Nat.zero_le _)
  (fun x c hx=>(Tryd.strings_Index_one x 47 _).mono fun e w' ⟨he,hw⟩=>⟨by rw [he];show _=Ending.returned (.int .i64 (Lib.index x.data.toList [47]));rw [Lib.index_one],hw⟩)
  ((Tryd.strings_Count_one s 47 w).mono fun e w' ⟨he,hw⟩=>⟨by rw [he];show _=Ending.returned (.int .i64 ((Lib.count s.data.toList [47]:Nat):Int));rw [Lib.count_one];rfl,hw⟩)
  (by decide) (by decide) (by rw [if_pos (by decide)];omega)
 rw [Nat.add_sub_cancel,hlen] at c
 have e2:Lib.cellsOf (Lib.splitB ⟨#[47]⟩ 0 (Lib.countB s ⟨#[47]⟩) s) (Lib.countB s ⟨#[47]⟩ + 1)=((Lib.splitB ⟨#[47]⟩ 0 (Lib.countB s ⟨#[47]⟩) s).map Value.string).toArray:=by rw [← hlen];exact Lib.cellsOf_full _
 rw [e2,← hlen,split_names_] at c
 clear e2 hlen hle
 obtain ⟨n,hn⟩:∃ n,(names_ s).length=n:=⟨_,rfl⟩
 obtain ⟨cs,hcs⟩:∃ cs,((names_ s).map Value.string).toArray=cs:=⟨_,rfl⟩
 rw [hn,hcs] at c ⊢
 clear hn hcs
 have c':Calls Tryd.prog 87 #[.string s,.string ⟨#[47]⟩,.int .i64 0,.int .i64 (-1)] w fun e w'=>e=.returned (.slice (some ⟨w.heap.size,0,none⟩) n n)∧w'=w.alloc (.cells cs 9):=c
 clear c
 go_enter Tryd.func81,Tryd.ntmps81
 go_wp2_with (go_at_call 87;refine c'.mono ?_;rintro e w' ⟨rfl,hw⟩;rw [hw])
 go_ret
 exact ⟨rfl,rfl⟩
theorem strings_Split.calls (a0 a1:ByteArray) (r:List ByteArray) (w:World) (h:strings_Split.f a0 a1=some r) :
  Calls Tryd.prog 81 #[.string a0,.string a1] w fun e w'=>∃ v0_:Value,e=.returned (v0_)∧Kd.R Kd.string 9 w' w.heap.size (fun _=>True) v0_ r∧Below w.heap.size w w':=by
 unfold strings_Split.f at h;by_cases hs:a1.data.toList=[47]∧a0.size < 4294967281
 case neg=>rw [if_neg hs] at h;exact absurd h (by simp)
 rw [if_pos hs] at h;obtain rfl:=Option.some.inj h
 obtain rfl:a1=⟨#[47]⟩:=by
  obtain ⟨⟨l⟩⟩:=a1;have:=hs.1;simp at this;subst this;rfl
 refine (split_walk_ a0 w hs.2).mono ?_;rintro e w' ⟨rfl,rfl⟩;refine ⟨_,rfl,?_,bal (Below.refl _ _) _⟩;refine Kd.R_of_own (enc:=Value.string) (h1:=fun _=>rfl) ⟨by simp [encs],.inr ⟨w.heap.size,_,_,rfl,Nat.le_refl _,by simpa using heap_alloc_new w _,Nat.le_refl _,by have:=names_length_ a0;have:=hs.2;unfold maxLen;omega,by simp,?_⟩⟩ (fun _ _=>trivial);rw [encs,Nat.mul_one,List.take_of_length_le (by simp)]
def nameB (s:List UInt8):Bool:=!s.isEmpty && !(s == [46]) && !(s == [46,46]) && decide (s.length≤32) && s.all (fun c=>decide (33≤c.toNat) && decide (c.toNat≤126))
def tree_name.f (a0:ByteArray):Option Bool:=some (nameB a0.data.toList)
theorem iter_below_ (w:World) (s:ByteArray) (pos:Nat):Below w.heap.size w (w.iter s pos):=bal (Below.refl _ _) _
theorem all_take_succ_ (s:ByteArray) (pos:Nat) (h:pos < s.size) (p:UInt8→Bool) (h1:(s.data.toList.take pos).all p=true) (h2:p (s[pos]'h)=true):(s.data.toList.take (pos + 1)).all p=true:=by
 rw [List.take_succ_eq_append_getElem (by simpa using h),List.all_append,h1]
 simp only [List.all_cons,List.all_nil,Bool.and_true,Bool.true_and]
 exact h2
theorem all_false_ (s:ByteArray) (pos:Nat) (h:pos < s.size) (p:UInt8→Bool) (h2:p (s[pos]'h)=false):s.data.toList.all p=false:=by
 rw [List.all_eq_false]
 refine ⟨s[pos]'h,?_,by simp [h2]⟩
 have:s.data.toList[pos]'(by simpa using h)=s[pos]'h:=rfl
 rw [← this]
 exact List.getElem_mem _
set_option maxHeartbeats 2000000 in
set_option maxRecDepth 100000 in
theorem tree_name.calls (a0:ByteArray) (r:Bool) (w:World) (h:tree_name.f a0=some r) :
  Calls Tryd.prog 82 #[.string a0] w fun e w'=>e=.returned (.bool r)∧Below w.heap.size w w':=by
 have h:=Option.some.inj h;(have hsz:a0.data.toList.length=a0.size:=by simp);by_cases c1:a0.data.toList=[]
 ·(have d1:a0.toList.isEmpty=true:=by rw [toList_data_,c1];rfl);(have hr:r=false:=by rw [← h,nameB,c1];rfl);subst hr;clear h c1 hsz;go_enter Tryd.func82,Tryd.ntmps82;go_wp2;go_ret;exact ⟨rfl,Below.refl _ _⟩
 (have d1:a0.toList.isEmpty=false:=by rw [toList_data_];simpa using c1);by_cases c2:a0.data.toList=[46]
 ·(have d2:(a0.toList == [46])=true:=by rw [toList_data_,c2];rfl);(have hr:r=false:=by rw [← h,nameB,c2];rfl);subst hr;clear h c1 c2 hsz;go_enter Tryd.func82,Tryd.ntmps82;go_wp2;go_ret;exact ⟨rfl,Below.refl _ _⟩
 (have d2:(a0.toList == [46])=false:=by rw [toList_data_];simpa using c2);by_cases c3:a0.data.toList=[46,46]
 ·(have d3:(a0.toList == [46,46])=true:=by rw [toList_data_,c3];rfl);(have hr:r=false:=by rw [← h,nameB,c3];rfl);subst hr;clear h c1 c2 c3 hsz;go_enter Tryd.func82,Tryd.ntmps82;go_wp2;go_ret;exact ⟨rfl,Below.refl _ _⟩
 (have d3:(a0.toList == [46,46])=false:=by rw [toList_data_];simpa using c3);by_cases c4:32 < a0.size
 ·(have hr:r=false:=by rw [← h,nameB,hsz,decide_eq_false (by omega)];simp);(have d4:(32:Int) < (a0.size:Int):=by omega);subst hr;clear h c1 c2 c3 hsz;go_enter Tryd.func82,Tryd.ntmps82;go_wp2;go_ret;exact ⟨rfl,Below.refl _ _⟩
 have hr:a0.data.toList.all (fun c=>decide (33≤c.toNat) && decide (c.toNat≤126))=r:=by
  rw [toList_data_] at d1 d2 d3;rw [← h,nameB,hsz,decide_eq_true (by omega),d1,d2,d3];rfl
 (have d4:¬ (32:Int) < (a0.size:Int):=by omega);have HR:=Aside0.mk hr;clear h c1 c2 c3 hsz hr;go_enter Tryd.func82,Tryd.ntmps82;go_wp2;go_loopw [4] (fun v3 w'=>∃ (pos:Nat),w'=w.iter a0 pos∧Aside0 (pos≤a0.size∧(a0.data.toList.take pos).all (fun c=>decide (33≤c.toNat) && decide (c.toNat≤126))=true)) (fun _ w'=>a0.size - w'.iterPos w.heap.size)
 case atStart=>exact ⟨0,rfl,⟨⟨Nat.zero_le _,rfl⟩⟩⟩
 case round =>
  obtain ⟨pos,rfl,HA⟩:=hrel;by_cases hp:pos < a0.size
  ·by_cases ha:(a0[pos]'hp).toNat < 128
   ·(have hnx:∀ ty,(Instr.next (.pointer (some ⟨w.heap.size,0,none⟩)) true ty).run Tryd.prog (w.iter a0 pos)=_:=fun ty=>run_next_ascii w a0 pos ty hp ha);obtain ⟨c,hc⟩:∃ c:Nat,(a0[pos]'hp).toNat=c:=⟨_,rfl⟩;simp only [hc] at hnx ha;have HC:=Aside0.mk hc;clear hc;by_cases g1:c < 33
    ·(have g1':((c:Int) < 33):=by omega);go_wp2;go_ret;(obtain rfl:false=r:=by rw [← HR.out,all_false_ a0 pos hp _ (by rw [HC.out];simp;omega)]);exact ⟨rfl,iter_below_ _ _ _⟩
    ·by_cases g2:126 < c
     ·(have g1':¬ ((c:Int) < 33):=by omega);(have g2':((126:Int) < c):=by omega);go_wp2;go_ret;(obtain rfl:false=r:=by rw [← HR.out,all_false_ a0 pos hp _ (by rw [HC.out];simp;omega)]);exact ⟨rfl,iter_below_ _ _ _⟩
     ·(have g1':¬ ((c:Int) < 33):=by omega);(have g2':¬ ((126:Int) < c):=by omega);go_wp2;go_roundw
      case rel=>exact ⟨pos + 1,rfl,⟨⟨hp,all_take_succ_ a0 pos hp _ HA.out.2 (by rw [HC.out];simp;omega)⟩⟩⟩
      case measure =>
       simp;omega
   ·have hd:=decode_high a0 pos hp (by omega);(have hnx:∀ ty,(Instr.next (.pointer (some ⟨w.heap.size,0,none⟩)) true ty).run Tryd.prog (w.iter a0 pos)=_:=fun ty=>run_next_any w a0 pos ty hp);obtain ⟨c,hc⟩:∃ c:Nat,(Utf8.decode a0 pos).1=c:=⟨_,rfl⟩;obtain ⟨c2,hc2⟩:∃ c:Nat,(Utf8.decode a0 pos).2=c:=⟨_,rfl⟩;simp only [hc,hc2] at hnx hd;have HC:=Aside0.mk ha;clear hc hc2 ha;(have g1':¬ ((c:Int) < 33):=by omega);(have g2':((126:Int) < c):=by omega);go_wp2;go_ret;(obtain rfl:false=r:=by rw [← HR.out,all_false_ a0 pos hp _ (by have:=HC.out;simp;omega)]);exact ⟨rfl,iter_below_ _ _ _⟩
  ·(have hnx:∀ ty,(Instr.next (.pointer (some ⟨w.heap.size,0,none⟩)) true ty).run Tryd.prog (w.iter a0 pos)=_:=fun ty=>run_next_end w a0 pos ty hp);go_wp2;go_ret;have h1:=HA.out;rw [List.take_of_length_le (by simp;omega)] at h1;(obtain rfl:true=r:=by rw [← HR.out,h1.2]);exact ⟨rfl,iter_below_ _ _ _⟩
end Go.Proofs.YtmeofdpmddjbgaaDoor.G
end
section
namespace Go.Proofs.YtmeofdpmddjbgaaDoor.G
open Go.RowKit Go.Proofs.YtmeofdpmddjbgaaDoorW.PrintWords Go.Proofs.YtmeofdpmddjbgaaDoorW.PrintLast Go.Proofs.YtmeofdpmddjbgaaDoorW.PrintMore
attribute [local go_sem] max2_int min2_int max_two min_two max_three min_three max_four min_four   
set_option linter.unusedVariables false
set_option linter.unusedSimpArgs false
def tree_Path.l0:Nat→List ByteArray→Int→Int→Option (Int)
 | 0,_,_,_=>none
 | k + 1,x9,x10,x11=>if x11 < x10 then (if 0≤x11 then (if x11 < (x9.length:Int) then ((tree_name.f (rdOf ByteArray.empty x9 x11)).bind fun t113=>(if t113=true then (tree_Path.l0 k x9 x10 (wrap64 (x11 + 1))) else (some 10))) else (none)) else (none)) else (some 0)
def tree_Path.f (k:Nat) (a0:ByteArray):Option (Int):=if (a0.size:Int) > 200 then (some 4) else ((strings_Split.f a0 (⟨#[47]⟩:ByteArray)).bind fun t109=>(tree_Path.l0 k t109 (t109.length:Int) 0))
theorem tree_Path.mono_l:∀ k,(∀ y0 y1 y2,LeO (tree_Path.l0 k y0 y1 y2) (tree_Path.l0 (k + 1) y0 y1 y2))
 | 0=>fun _ _ _ r h=>by simp [tree_Path.l0] at h
 | k + 1=>by
  have ih0:=tree_Path.mono_l k
  ·intro y0 y1 y2
   unfold tree_Path.l0
   repeat' first
   | (with_reducible exact ih0 _ _ _)
   | (with_reducible exact LeO.refl _)
   | (with_reducible exact LeO.none _)
   | (with_reducible refine LeO.ite ?_ ?_)
   | (with_reducible refine LeO.bind ?_ (fun _=>?_))
   | exact ih0 _ _ _
   | exact LeO.none _
   | refine LeO.ite ?_ ?_
   | refine LeO.bind ?_ (fun _=>?_)
theorem tree_Path.mono:∀ a0 k,LeO (tree_Path.f k a0) (tree_Path.f (k + 1) a0):=by
 intro a0 k
 have ih0:=tree_Path.mono_l k
 unfold tree_Path.f
 repeat' first
   | (with_reducible exact ih0 _ _ _)
   | (with_reducible exact LeO.refl _)
   | (with_reducible exact LeO.none _)
   | (with_reducible refine LeO.ite ?_ ?_)
   | (with_reducible refine LeO.bind ?_ (fun _=>?_))
   | exact ih0 _ _ _
   | exact LeO.none _
   | refine LeO.ite ?_ ?_
   | refine LeO.bind ?_ (fun _=>?_)
set_option maxHeartbeats 8000000 in
set_option maxRecDepth 100000 in
theorem tree_Path.calls (k:Nat) (a0:ByteArray) (r:Int) (w:World) (h:tree_Path.f k a0=some r) :
  Calls Tryd.prog 71 #[.string a0] w fun e w'=>e=.returned (.int .i64 r)∧Below w.heap.size w w':=by
 have HB:=Aside0.mk (Below.refl w.heap.size w);have H:(if (a0.size:Int) > 200 then (some 4) else ((strings_Split.f a0 (⟨#[47]⟩:ByteArray)).bind fun t109=>(tree_Path.l0 k t109 (t109.length:Int) 0)))=some r:=h;clear h;by_cases c2:(a0.size:Int) > 200
 ·rw [if_pos c2] at H;have c2b0:decide (200 < (a0.size:Int))=true:=decide_eq_true c2;have c2b1:decide (200 < a0.size)=true:=decide_eq_true (by omega);clear c2;obtain rfl:=Option.some.inj H;go_enter Tryd.func71,Tryd.ntmps71;go_wp2;go_ret;exact ⟨by first|rfl|(simp [errW_none,errW_some] <;> rfl)|(simp [*,errW_none,errW_some] <;> rfl),by repeat (first|(with_reducible first|exact HB.out|apply bal|apply bdN|apply bd1)|exact HB.out)⟩
 ·rw [if_neg c2] at H;have c2b0:decide (200 < (a0.size:Int))=false:=decide_eq_false c2;have c2b1:decide (200 < a0.size)=false:=decide_eq_false (by omega);clear c2;replace H:=Option.bind_eq_some_iff.mp H;obtain ⟨t109,A30,H⟩:=H;replace H:(tree_Path.l0 k t109 (t109.length:Int) 0)=some r:=H;have A3:=Aside0.mk A30;clear A30;have H':=Aside0.mk H;clear H;go_enter Tryd.func71,Tryd.ntmps71;go_wp2_with (first|((with_reducible refine gate_callee (f:=81) rfl ?_);refine goesL_ (some 9) rfl rfl Tryd.func81 (by kernel_rfl) rfl #[.string a0,.string (⟨#[47]⟩:ByteArray)] rfl (by (try simp only [List.map_toArray,List.map_cons,List.map_nil]);first|done|rfl|(simp only [List.length_drop,List.length_take];rfl)) ?_;(with_reducible refine (strings_Split.calls a0 (⟨#[47]⟩:ByteArray) t109 _ A3.out).mono ?_);rintro e w4 ⟨v110,rfl,ho0,hb⟩;refine ⟨_,rfl,?_⟩;have n0_:=Aside0.mk (Kd.R_lower ho0 (below_size (by repeat (first|(with_reducible first|exact HB.out|apply bal|apply bdN|apply bd1)|exact HB.out))));have n1_:=Aside0.mk (below_step (by repeat (first|(with_reducible first|exact HB.out|apply bal|apply bdN|apply bd1)|exact HB.out)) hb);clear HB;have HO111:=n0_;have HB:=n1_;clear n0_ n1_;(try clear hb);(try clear hb2);(try clear hk);(try clear hi);(try clear ho0);obtain ⟨Ao5,co5,eo5⟩:=Kd.R_slice HO111.out;subst eo5));go_loopg [11] k (fun kq v11 w'=>∃ (x11_1:Int),v11=.int .i64 x11_1∧Aside0 (tree_Path.l0 kq t109 (t109.length:Int) x11_1=some r)∧Aside0 (kq≤k)∧Aside0 (Kd.R Kd.string 9 w' w.heap.size (fun _=>True) (.slice Ao5 t109.length co5) t109)∧Aside0 (Below w.heap.size w w'))
  case atStart=>exact ⟨(0),(by first|rfl|(simp;done)|(simp [*];done)),H',⟨Nat.le_refl _⟩,⟨by (with_reducible repeat (first|apply Kd.R_alloc|apply Kd.R_drewN|apply Kd.R_drew));exact HO111.out⟩,⟨by repeat (first|(with_reducible first|exact HB.out|apply bal|apply bdN|apply bd1)|exact HB.out)⟩⟩
  case round =>
   clear H';(try clear c2);(try clear c2b0);(try clear c2b1);(try clear p2);obtain ⟨x11_1,rfl,HA,HK1,HO_9,HB⟩:=hrel
   cases gk with
   | zero=>exact absurd HA.out (by simp [tree_Path.l0])
   | succ k1 =>
    have H:=HA.out;clear HA;simp only [tree_Path.l0] at H;by_cases c6:x11_1 < (t109.length:Int)
    ·rw [if_pos c6] at H;have c6b0:decide (x11_1 < (t109.length:Int))=true:=decide_eq_true c6;clear c6;by_cases c7:0≤x11_1
     ·rw [if_pos c7] at H;have c7b0:decide (0≤x11_1)=true:=decide_eq_true c7;clear c7;by_cases c8:x11_1 < (t109.length:Int)
      ·rw [if_pos c8] at H;have c8b0:decide (x11_1 < (t109.length:Int))=true:=decide_eq_true c8;clear c8;replace H:=Option.bind_eq_some_iff.mp H;obtain ⟨t113,A90,H⟩:=H;replace H:(if t113=true then (tree_Path.l0 k1 t109 (t109.length:Int) (wrap64 (x11_1 + 1))) else (some 10))=some r:=H;have A9:=Aside0.mk A90;clear A90;by_cases c10:t113=true
       ·subst c10;(have H1:(tree_Path.l0 k1 t109 (t109.length:Int) (wrap64 (x11_1 + 1)))=some r:=by rw [if_pos rfl] at H;exact H);clear H;have H:=H1;clear H1;have H':=Aside0.mk H;clear H;have p112:0≤(x11_1:Int):=of_decide_eq_true (by first|(with_reducible assumption)|assumption);have q112:x11_1 < (t109.length:Int):=of_decide_eq_true (by first|(with_reducible assumption)|assumption);obtain ⟨ad112,e112,hx112_0⟩:=Kd.at_string (Kd.R_reads' HO_9.out).2.2 x11_1 p112 q112;cases e112;replace p112:=eq_true p112;replace q112:=eq_true q112;go_wp2_with (first|((with_reducible refine gate_callee (f:=82) rfl ?_);refine goesL_ (some 16) rfl rfl Tryd.func82 (by kernel_rfl) rfl #[.string (rdOf ByteArray.empty t109 x11_1)] rfl (by (try simp only [List.map_toArray,List.map_cons,List.map_nil]);first|done|rfl|(simp only [List.length_drop,List.length_take];rfl)) ?_;(with_reducible refine (tree_name.calls (rdOf ByteArray.empty t109 x11_1) true _ A9.out).mono ?_);rintro e w11 ⟨rfl,hb⟩;refine ⟨_,rfl,?_⟩;have n0_:=Aside0.mk (Kd.R_below (by (with_reducible repeat (first|apply Kd.R_alloc|apply Kd.R_drewN|apply Kd.R_drew));exact HO_9.out) hb);have n1_:=Aside0.mk (below_step (by repeat (first|(with_reducible first|exact HB.out|apply bal|apply bdN|apply bd1)|exact HB.out)) hb);clear HO_9;clear HB;have HO_9:=n0_;have HB:=n1_;clear n0_ n1_;(try clear hb);(try clear hb2);(try clear hk);(try clear hi)));go_roundg k1
        case measure=>have:=HK1.out;omega
        case rel=>exact ⟨(wrap64 (x11_1 + 1)),(by first|rfl|(simp;done)|(simp [*];done)),H',⟨by have:=HK1.out;omega⟩,⟨by (with_reducible repeat (first|apply Kd.R_alloc|apply Kd.R_drewN|apply Kd.R_drew));exact HO_9.out⟩,⟨by repeat (first|(with_reducible first|exact HB.out|apply bal|apply bdN|apply bd1)|exact HB.out)⟩⟩
       ·replace c10:=Bool.eq_false_iff.mpr c10;subst c10;(have H1:(some 10)=some r:=by rw [if_neg (show ¬ (false=true) by decide)] at H;exact H);clear H;have H:=H1;clear H1;obtain rfl:=Option.some.inj H;have p112:0≤(x11_1:Int):=of_decide_eq_true (by first|(with_reducible assumption)|assumption);have q112:x11_1 < (t109.length:Int):=of_decide_eq_true (by first|(with_reducible assumption)|assumption);obtain ⟨ad112,e112,hx112_0⟩:=Kd.at_string (Kd.R_reads' HO_9.out).2.2 x11_1 p112 q112;cases e112;replace p112:=eq_true p112;replace q112:=eq_true q112;go_wp2_with (first|((with_reducible refine gate_callee (f:=82) rfl ?_);refine goesL_ (some 16) rfl rfl Tryd.func82 (by kernel_rfl) rfl #[.string (rdOf ByteArray.empty t109 x11_1)] rfl (by (try simp only [List.map_toArray,List.map_cons,List.map_nil]);first|done|rfl|(simp only [List.length_drop,List.length_take];rfl)) ?_;(with_reducible refine (tree_name.calls (rdOf ByteArray.empty t109 x11_1) false _ A9.out).mono ?_);rintro e w12 ⟨rfl,hb⟩;refine ⟨_,rfl,?_⟩;have n0_:=Aside0.mk (Kd.R_below (by (with_reducible repeat (first|apply Kd.R_alloc|apply Kd.R_drewN|apply Kd.R_drew));exact HO_9.out) hb);have n1_:=Aside0.mk (below_step (by repeat (first|(with_reducible first|exact HB.out|apply bal|apply bdN|apply bd1)|exact HB.out)) hb);clear HO_9;clear HB;have HO_9:=n0_;have HB:=n1_;clear n0_ n1_;(try clear hb);(try clear hb2);(try clear hk);(try clear hi)));go_ret;exact ⟨by first|rfl|(simp [errW_none,errW_some] <;> rfl)|(simp [*,errW_none,errW_some] <;> rfl),by repeat (first|(with_reducible first|exact HB.out|apply bal|apply bdN|apply bd1)|exact HB.out)⟩
      ·rw [if_neg c8] at H;exact absurd H (by simp)
     ·rw [if_neg c7] at H;exact absurd H (by simp)
    ·rw [if_neg c6] at H;have c6b0:decide (x11_1 < (t109.length:Int))=false:=decide_eq_false c6;clear c6;obtain rfl:=Option.some.inj H;go_wp2;go_ret;exact ⟨by first|rfl|(simp [errW_none,errW_some] <;> rfl)|(simp [*,errW_none,errW_some] <;> rfl),by repeat (first|(with_reducible first|exact HB.out|apply bal|apply bdN|apply bd1)|exact HB.out)⟩
end Go.Proofs.YtmeofdpmddjbgaaDoor.G
end
section
namespace Go.Proofs.YtmeofdpmddjbgaaDoor.G
open Go.RowKit Go.Proofs.YtmeofdpmddjbgaaDoorW.PrintWords Go.Proofs.YtmeofdpmddjbgaaDoorW.PrintLast Go.Proofs.YtmeofdpmddjbgaaDoorW.PrintMore
set_option linter.unusedVariables false
set_option linter.unusedSimpArgs false
theorem w64_ {i:Int} (h : -9223372036854775808≤i) (h2:i≤9223372036854775807):wrap64 i=i:=by
 unfold wrap64
 omega
theorem bt_nat (s:ByteArray) (i:Nat) (h:i < s.size):bt s (i:Int)=((s.data.toList[i]'(by simpa using h)).toNat:Int):=by
 simp [bt,h]
 rfl
theorem rdOf_nat {α:Type} (d:α) (l:List α) (i:Nat) (h:i < l.length):rdOf d l (i:Int)=l[i]:=by
 simp [rdOf,List.getD_eq_getElem?_getD,h]
theorem sz_ (s:ByteArray):s.data.toList.length=s.size:=by simp
theorem refname_l0 (s:ByteArray) (hs:s.size≤4611686018427387904):∀ (d i:Nat),s.size - i=d→i≤s.size →
  Ev (fun k=>barqueref09_name.l0 k s i) ((s.data.toList.drop i).all (fun c=>decide (33≤c.toNat) && decide (c.toNat≤126))):=by
 intro d
 induction d with
 | zero =>
  intro i hd hi
  have e:i=s.size:=by omega
  subst e
  apply Ev.step
  ·intro k;rw [barqueref09_name.l0]
  have c1:¬ ((s.size:Int) < (s.size:Int)):=by omega
  simp only [c1,↓reduceIte]
  rw [List.drop_eq_nil_of_le (by rw [sz_];exact Nat.le_refl _)]
  exact Ev.now _
 | succ d ih =>
  intro i hd hi
  apply Ev.step
  ·intro k;rw [barqueref09_name.l0]
  have hlt:i < s.size:=by omega
  have hll:i < s.data.toList.length:=by rw [sz_];exact hlt
  have c1:((i:Int) < (s.size:Int)):=by omega
  have c2:(0:Int)≤(i:Int):=by omega
  simp only [c1,c2,↓reduceIte,bt_nat s i hlt]
  rw [List.drop_eq_getElem_cons hll,List.all_cons]
  obtain ⟨c,hc⟩:∃ c,s.data.toList[i]'hll=c:=⟨_,rfl⟩
  rw [hc]
  by_cases g1:c.toNat < 33
  ·have g1':((c.toNat:Int) < 33):=by omega
   simp only [g1',↓reduceIte]
   rw [show decide (33≤c.toNat)=false by simp;omega]
   exact Ev.now _
  ·have g1':¬ ((c.toNat:Int) < 33):=by omega
   by_cases g2:126 < c.toNat
   ·have g2':((c.toNat:Int) > 126):=by omega
    simp only [g1',g2',↓reduceIte]
    rw [show decide (c.toNat≤126)=false by simp;omega,Bool.and_false]
    exact Ev.now _
   ·have g2':¬ ((c.toNat:Int) > 126):=by omega
    simp only [g1',g2',↓reduceIte]
    rw [show decide (c.toNat≤126)=true by simp;omega,show decide (33≤c.toNat)=true by simp;omega]
    have hw:wrap64 ((i:Int) + 1)=((i + 1:Nat):Int):=by rw [w64_ (by omega) (by omega)];omega
    simp only [hw,Bool.and_self,Bool.true_and]
    exact ih (i + 1) (by omega) (by omega)
theorem refname_ev (s:ByteArray) (hs:s.size≤4611686018427387904):Ev (fun k=>barqueref09_name.f k s) (nameB s.data.toList):=by
 unfold barqueref09_name.f nameB
 rw [toList_data_,sz_]
 have step1:∀ b:Bool,b=true→Ev (fun k=>barqueref09_name.j0 k s b) false:=fun b hb=>by
  subst hb
  apply Ev.step
  ·intro k;rw [barqueref09_name.j0]
  simp only [↓reduceIte]
  exact Ev.now _
 by_cases c1:s.data.toList=[]
 ·simp only [c1,↓reduceIte]
  exact step1 _ rfl
 by_cases c2:s.data.toList=[46]
 ·simp only [c2,↓reduceIte,reduceCtorEq]
  exact step1 _ rfl
 by_cases c3:s.data.toList=[46,46]
 ·simp only [c3,↓reduceIte,reduceCtorEq,List.cons.injEq,and_false]
  exact step1 _ rfl
 simp only [c1,c2,c3,↓reduceIte]
 have e1:s.data.toList.isEmpty=false:=by simpa using c1
 have e2:(s.data.toList == [46])=false:=by simpa using c2
 have e3:(s.data.toList == [46,46])=false:=by simpa using c3
 rw [e1,e2,e3]
 by_cases c4:s.size≤32
 ·have c4':decide ((s.size:Int) > 32)=false:=by simp;omega
  rw [c4',show decide (s.size≤32)=true by simpa using c4]
  apply Ev.step
  ·intro k;rw [barqueref09_name.j0]
  simp only [Bool.false_eq_true,↓reduceIte]
  have h:=refname_l0 s hs s.size 0 (by omega) (by omega)
  simpa using h
 ·have c4':decide ((s.size:Int) > 32)=true:=by simp;omega
  rw [c4',show decide (s.size≤32)=false by simpa using c4]
  exact step1 _ rfl
theorem extract_ba (s:ByteArray) (a b:Nat):s.extract a b=⟨((s.data.toList.take b).drop a).toArray⟩:=by
 have h:=Go.Lib.extract_data s a b
 have e:(s.extract a b).data=((s.data.toList.take b).drop a).toArray:=by
  apply Array.toList_inj.1
  rw [h,List.drop_take]
 cases hx:s.extract a b
 rw [hx] at e
 exact congrArg ByteArray.mk e
theorem refnames_l0 (s:ByteArray) (hs:s.size≤4294967296):∀ (d i j:Nat) (acc:List ByteArray),s.size - i=d→i≤s.size→j≤i→acc.length≤i →
  Ev (fun k=>barqueref09_Names.l0 k s acc j i) (acc ++ (splitSlash ((s.data.toList.take i).drop j) (s.data.toList.drop i)).map fun l=>⟨l.toArray⟩):=by
 intro d
 induction d with
 | zero =>
  intro i j acc hd hi hj ha
  have e:i=s.size:=by omega
  subst e
  apply Ev.step
  ·intro k;rw [barqueref09_Names.l0]
  have c1:(s.size:Int)≤(s.size:Int):=Int.le_refl _
  have c2:(0:Int)≤(j:Int):=by omega
  have c3:(j:Int)≤(s.size:Int):=by omega
  have c4:acc.length < 8796093022208:=by omega
  have hw:wrap64 ((s.size:Int) + 1)=(s.size:Int) + 1:=w64_ (by omega) (by omega)
  simp only [c1,c2,c3,c4,↓reduceIte,hw]
  apply Ev.step
  ·intro k;rw [barqueref09_Names.l0]
  have c5:¬ ((s.size:Int) + 1≤(s.size:Int)):=by omega
  simp only [c5,↓reduceIte]
  rw [show s.data.toList.drop s.size=[] from List.drop_eq_nil_of_le (by rw [sz_];exact Nat.le_refl _),splitSlash]
  rw [extract_ba]
  simp only [Int.toNat_natCast]
  exact Ev.now _
 | succ d ih =>
  intro i j acc hd hi hj ha
  have hlt:i < s.size:=by omega
  have hll:i < s.data.toList.length:=by rw [sz_];exact hlt
  apply Ev.step
  ·intro k;rw [barqueref09_Names.l0]
  have c1:(i:Int)≤(s.size:Int):=by omega
  have c1':¬ ((i:Int)=(s.size:Int)):=by omega
  have c1'':(i:Int) < (s.size:Int):=by omega
  have c2:(0:Int)≤(j:Int):=by omega
  have c2':(0:Int)≤(i:Int):=by omega
  have c3:(j:Int)≤(i:Int):=by omega
  have c4:acc.length < 8796093022208:=by omega
  have hw:wrap64 ((i:Int) + 1)=((i + 1:Nat):Int):=by rw [w64_ (by omega) (by omega)];omega
  simp only [c1,c1',c1'',c2,c2',c3,c4,↓reduceIte,hw,bt_nat s i hlt]
  rw [List.drop_eq_getElem_cons hll]
  by_cases hc:s.data.toList[i]'hll=47
  ·have hc':(((s.data.toList[i]'hll).toNat:Int)=47):=by rw [hc];rfl
   simp only [hc',↓reduceIte]
   rw [splitSlash,if_pos hc,List.map_cons,extract_ba]
   simp only [Int.toNat_natCast]
   have h:=ih (i + 1) (i + 1) (acc ++ [⟨((s.data.toList.take i).drop j).toArray⟩]) (by omega) (by omega) (Nat.le_refl _) (by rw [List.length_append,List.length_singleton];omega)
   rw [show (s.data.toList.take (i + 1)).drop (i + 1)=[] from List.drop_eq_nil_of_le (by rw [List.length_take];omega),List.append_assoc] at h
   exact h
  ·have hc':¬ (((s.data.toList[i]'hll).toNat:Int)=47):=by
    intro e
    apply hc
    apply UInt8.toNat_inj.1
    exact Int.ofNat.inj e
   simp only [hc',↓reduceIte]
   rw [splitSlash,if_neg hc]
   have h:=ih (i + 1) j acc (by omega) (by omega) (by omega) (by omega)
   rw [List.take_succ_eq_append_getElem hll,List.drop_append_of_le_length (by rw [List.length_take,sz_];omega)] at h
   exact h
theorem refnames_ev (s:ByteArray) (hs:s.size≤4294967296):Ev (fun k=>barqueref09_Names.f k s) (names_ s):=by
 unfold barqueref09_Names.f names_
 have h:=refnames_l0 s hs s.size 0 0 [] (by omega) (by omega) (Nat.le_refl _) (Nat.zero_le _)
 simpa using h
theorem splitSlash_mem:∀ (l acc x:List UInt8),x ∈ splitSlash acc l→x.length≤acc.length + l.length
 | [],acc,x,h=>by
  rw [splitSlash,List.mem_singleton] at h
  rw [h];omega
 | c :: l,acc,x,h=>by
  unfold splitSlash at h
  split at h
  ·rcases List.mem_cons.1 h with h|h
   ·rw [h];omega
   ·have h1:x.length≤l.length:=by simpa using splitSlash_mem l [] x h
    simp only [List.length_cons]
    omega
  ·have h1:x.length≤acc.length + 1 + l.length:=by simpa using splitSlash_mem l (acc ++ [c]) x h
   simp only [List.length_cons]
   omega
theorem names_mem (s n:ByteArray) (h:n ∈ names_ s):n.size≤s.size:=by
 unfold names_ at h
 obtain ⟨l,hl,rfl⟩:=List.mem_map.1 h
 have h1:l.length≤s.data.toList.length:=by simpa using splitSlash_mem _ _ _ hl
 rw [sz_] at h1
 show l.toArray.size≤s.size
 simpa using h1
def pathE (s:ByteArray):Int:=if 200 < s.size then 4 else if (names_ s).all (fun n=>nameB n.data.toList) then 0 else 10
theorem path_l0 (l:List ByteArray) (hl:l.length≤4294967296):∀ (d i:Nat),l.length - i=d→i≤l.length →
  Ev (fun k=>tree_Path.l0 k l l.length i) (if (l.drop i).all (fun n=>nameB n.data.toList) then 0 else 10):=by
 intro d
 induction d with
 | zero =>
  intro i hd hi
  have e:i=l.length:=by omega
  subst e
  apply Ev.step
  ·intro k;rw [tree_Path.l0]
  have c1:¬ ((l.length:Int) < (l.length:Int)):=by omega
  simp only [c1,↓reduceIte]
  rw [List.drop_eq_nil_of_le (Nat.le_refl _)]
  exact Ev.now _
 | succ d ih =>
  intro i hd hi
  have hlt:i < l.length:=by omega
  apply Ev.step
  ·intro k;rw [tree_Path.l0]
  have c1:((i:Int) < (l.length:Int)):=by omega
  have c2:(0:Int)≤(i:Int):=by omega
  have hw:wrap64 ((i:Int) + 1)=((i + 1:Nat):Int):=by rw [w64_ (by omega) (by omega)];omega
  simp only [c1,c2,↓reduceIte,rdOf_nat _ l i hlt,hw,tree_name.f,Option.bind_some]
  rw [List.drop_eq_getElem_cons hlt,List.all_cons]
  cases nameB (l[i]'hlt).data.toList with
  | false=>exact Ev.now _
  | true=>exact ih (i + 1) (by omega) (by omega)
theorem path_ev (s:ByteArray):Ev (fun k=>tree_Path.f k s) (pathE s):=by
 unfold tree_Path.f pathE
 by_cases h:200 < s.size
 ·have c1:((s.size:Int) > 200):=by omega
  simp only [c1,h,↓reduceIte]
  exact Ev.now _
 ·have c1:¬ ((s.size:Int) > 200):=by omega
  have c2:s.size < 4294967281:=by omega
  simp only [c1,h,↓reduceIte,strings_Split.f,c2,and_self,Option.bind_some]
  have:=names_length_ s
  have h:=path_l0 (names_ s) (by omega) (names_ s).length 0 (by omega) (by omega)
  simpa using h
theorem refpath_l0 (l:List ByteArray) (hl:l.length≤4294967296) (hm:∀ n ∈ l,n.size≤4611686018427387904):∀ (d i:Nat),l.length - i=d→i≤l.length →
  Ev (fun k=>barqueref09_Path.l0 k l i) (if (l.drop i).all (fun n=>nameB n.data.toList) then 0 else 10):=by
 intro d
 induction d with
 | zero =>
  intro i hd hi
  have e:i=l.length:=by omega
  subst e
  apply Ev.step
  ·intro k;rw [barqueref09_Path.l0]
  have c1:¬ ((l.length:Int) < (l.length:Int)):=by omega
  simp only [c1,↓reduceIte]
  rw [List.drop_eq_nil_of_le (Nat.le_refl _)]
  exact Ev.now _
 | succ d ih =>
  intro i hd hi
  have hlt:i < l.length:=by omega
  apply Ev.step
  ·intro k;rw [barqueref09_Path.l0]
  have c1:((i:Int) < (l.length:Int)):=by omega
  have c2:(0:Int)≤(i:Int):=by omega
  have hw:wrap64 ((i:Int) + 1)=((i + 1:Nat):Int):=by rw [w64_ (by omega) (by omega)];omega
  simp only [c1,c2,↓reduceIte,rdOf_nat _ l i hlt,hw]
  refine Ev.bind (refname_ev _ (hm _ (List.getElem_mem _))) ?_
  rw [List.drop_eq_getElem_cons hlt,List.all_cons]
  cases nameB (l[i]'hlt).data.toList with
  | false=>exact Ev.now _
  | true=>exact ih (i + 1) (by omega) (by omega)
theorem refpath_ev (s:ByteArray):Ev (fun k=>barqueref09_Path.f k s) (pathE s):=by
 unfold barqueref09_Path.f pathE
 by_cases h:200 < s.size
 ·have c1:((s.size:Int) > 200):=by omega
  simp only [c1,h,↓reduceIte]
  exact Ev.now _
 ·have c1:¬ ((s.size:Int) > 200):=by omega
  simp only [c1,h,↓reduceIte]
  refine Ev.bind (refnames_ev s (by omega)) ?_
  have:=names_length_ s
  have h:=refpath_l0 (names_ s) (by omega) (fun n hn=>by have:=names_mem s n hn;omega) (names_ s).length 0 (by omega) (by omega)
  simpa using h
theorem pathE_size (s:ByteArray) (h:pathE s=0):s.size≤200:=by
 unfold pathE at h
 split at h
 ·cases h
 ·omega
end Go.Proofs.YtmeofdpmddjbgaaDoor.G
end
section
namespace Go.Proofs.YtmeofdpmddjbgaaDoor.G
open Go.RowKit Go.Proofs.YtmeofdpmddjbgaaDoorW.PrintWords Go.Proofs.YtmeofdpmddjbgaaDoorW.PrintLast Go.Proofs.YtmeofdpmddjbgaaDoorW.PrintMore
attribute [local go_sem] max2_int min2_int max_two min_two max_three min_three max_four min_four   
set_option linter.unusedVariables false
set_option linter.unusedSimpArgs false
mutual
def code_Num.j0:Nat→Int→Bool→Option (ByteArray × Int)
 | 0,_,_=>none
 | k + 1,x0,x10=>if x10=true then (some ((⟨#[]⟩:ByteArray),2)) else (code_Num.l0 k x0 ([]:List Int))
def code_Num.l0:Nat→Int→List Int→Option (ByteArray × Int)
 | 0,_,_=>none
 | k + 1,x0,x4=>if x0 > 127 then (if x4.length < 140737488355328 then (code_Num.l0 k (x0 / 128) (x4 ++ [(Go.bits .or .i64 (Go.bits .and .i64 x0 127) 128) % 256])) else (none)) else (if x4.length < 140737488355328 then (some (strOfNums (x4 ++ [(x0) % 256]),0)) else (none))
end
def code_Num.f (k:Nat) (a0:Int):Option (ByteArray × Int):=if a0 < 0 then (code_Num.j0 k a0 true) else (code_Num.j0 k a0 (decide (a0 > 4611686018427387903)))
theorem code_Num.mono_l:∀ k,(∀ y0 y1,LeO (code_Num.j0 k y0 y1) (code_Num.j0 (k + 1) y0 y1))∧(∀ y0 y1,LeO (code_Num.l0 k y0 y1) (code_Num.l0 (k + 1) y0 y1))
 | 0=>⟨fun _ _ r h=>by simp [code_Num.j0] at h,fun _ _ r h=>by simp [code_Num.l0] at h⟩
 | k + 1=>by
  obtain ⟨ih0,ih1⟩:=code_Num.mono_l k
  refine ⟨?_,?_⟩
  ·intro y0 y1
   unfold code_Num.j0
   repeat' first
   | (with_reducible exact ih0 _ _)
   | (with_reducible exact ih1 _ _)
   | (with_reducible exact LeO.refl _)
   | (with_reducible exact LeO.none _)
   | (with_reducible refine LeO.ite ?_ ?_)
   | (with_reducible refine LeO.bind ?_ (fun _=>?_))
   | exact ih0 _ _
   | exact ih1 _ _
   | exact LeO.none _
   | refine LeO.ite ?_ ?_
   | refine LeO.bind ?_ (fun _=>?_)
  ·intro y0 y1
   unfold code_Num.l0
   repeat' first
   | (with_reducible exact ih0 _ _)
   | (with_reducible exact ih1 _ _)
   | (with_reducible exact LeO.refl _)
   | (with_reducible exact LeO.none _)
   | (with_reducible refine LeO.ite ?_ ?_)
   | (with_reducible refine LeO.bind ?_ (fun _=>?_))
   | exact ih0 _ _
   | exact ih1 _ _
   | exact LeO.none _
   | refine LeO.ite ?_ ?_
   | refine LeO.bind ?_ (fun _=>?_)
theorem code_Num.mono:∀ a0 k,LeO (code_Num.f k a0) (code_Num.f (k + 1) a0):=by
 intro a0 k
 obtain ⟨ih0,ih1⟩:=code_Num.mono_l k
 unfold code_Num.f
 repeat' first
   | (with_reducible exact ih0 _ _)
   | (with_reducible exact ih1 _ _)
   | (with_reducible exact LeO.refl _)
   | (with_reducible exact LeO.none _)
   | (with_reducible refine LeO.ite ?_ ?_)
   | (with_reducible refine LeO.bind ?_ (fun _=>?_))
   | exact ih0 _ _
   | exact ih1 _ _
   | exact LeO.none _
   | refine LeO.ite ?_ ?_
   | refine LeO.bind ?_ (fun _=>?_)
set_option maxHeartbeats 8000000 in
set_option maxRecDepth 100000 in
theorem code_Num.calls (k:Nat) (a0:Int) (r1:ByteArray) (r2:Int) (w:World) (h:code_Num.f k a0=some (r1,r2)) :
  Calls Tryd.prog 29 #[.int .i64 a0] w fun e w'=>e=.returned (.tuple #[.string r1,.int .i64 r2])∧Below w.heap.size w w':=by
 have HB:=Aside0.mk (Below.refl w.heap.size w);have H:(if a0 < 0 then (code_Num.j0 k a0 true) else (code_Num.j0 k a0 (decide (a0 > 4611686018427387903))))=some (r1,r2):=h;clear h;have HC2:=Aside0.mk H;clear H;go_enter Tryd.func29,Tryd.ntmps29;go_upto_region 1 with (fail);go_cut [10] (fun v10 wc=>∃ (kq:Nat) (x10_1:Bool),v10=.bool x10_1∧Aside0 (code_Num.j0 kq a0 x10_1=some (r1,r2))∧Aside0 (kq≤k)∧Aside0 (Below w.heap.size w wc))
 case first =>
  have H:=HC2.out;clear HC2;by_cases c3:a0 < 0
  ·rw [if_pos c3] at H;have c3b0:decide (a0 < 0)=true:=decide_eq_true c3;clear c3;(first|rw [c3b0]|(simp only [i64_w,i32_w];rw [c3b0])|skip);have H':=Aside0.mk H;clear H;go_wp2;go_meet
   case rel=>exact ⟨_,(true),(by first|rfl|(simp;done)|(simp [*];done)),H',⟨by first|omega|exact Nat.le_refl _⟩,⟨by repeat (first|(with_reducible first|exact HB.out|apply bal|apply bdN|apply bd1)|exact HB.out)⟩⟩
  ·rw [if_neg c3] at H;have c3b0:decide (a0 < 0)=false:=decide_eq_false c3;clear c3;(first|rw [c3b0]|(simp only [i64_w,i32_w];rw [c3b0])|skip);have H':=Aside0.mk H;clear H;go_wp2;go_meet
   case rel=>exact ⟨_,(decide (a0 > 4611686018427387903)),(by first|rfl|(simp;done)|(simp [*];done)),H',⟨by first|omega|exact Nat.le_refl _⟩,⟨by repeat (first|(with_reducible first|exact HB.out|apply bal|apply bdN|apply bd1)|exact HB.out)⟩⟩
 case rest =>
  clear HC2;(try clear c2);(try clear p2);(try clear c3);(try clear c3b0);obtain ⟨kq,x10_1,rfl,HA,HJ1,HB⟩:=hcut
  cases kq with
  | zero=>exact absurd HA.out (by simp [code_Num.j0])
  | succ kj1 =>
   have H:=HA.out;clear HA;simp only [code_Num.j0] at H;by_cases c4:x10_1=true
   ·subst c4;(have H1:(some ((⟨#[]⟩:ByteArray),2))=some (r1,r2):=by rw [if_pos rfl] at H;exact H);clear H;have H:=H1;clear H1;simp only [Option.some.injEq,Prod.mk.injEq] at H;obtain ⟨rfl,rfl⟩:=H;go_wp2;go_ret2;exact ⟨by first|rfl|(simp [errW_none,errW_some] <;> rfl)|(simp [*,errW_none,errW_some] <;> rfl),by repeat (first|(with_reducible first|exact HB.out|apply bal|apply bdN|apply bd1)|exact HB.out)⟩
   ·replace c4:=Bool.eq_false_iff.mpr c4;subst c4;(have H1:(code_Num.l0 kj1 a0 ([]:List Int))=some (r1,r2):=by rw [if_neg (show ¬ (false=true) by decide)] at H;exact H);clear H;have H:=H1;clear H1;have H':=Aside0.mk H;clear H;go_wp2;go_loopg [0,4] kj1 (fun kq v0 v4 w'=>∃ (x0_2:Int) (x4_2:List Int),v0=.int .i64 x0_2∧Aside0 (code_Num.l0 kq x0_2 x4_2=some (r1,r2))∧Aside0 (kq≤kj1)∧Aside0 (Kd.R (Kd.int .u8) 5 w' w.heap.size (fun _=>True) v4 x4_2)∧Aside0 (Below w.heap.size w w'))
    case atStart=>exact ⟨(a0),(([]:List Int)),(by first|rfl|(simp;done)|(simp [*];done)),H',⟨Nat.le_refl _⟩,⟨by first|exact Kd.R_nil _ _ _ _ _|exact Kd.N_nil _ _ _ _ _|exact Kd.V_nil _ _ _ _ _|exact Kd.Q_nil _ _ _ _ _|exact Kd.S_nil _ _ _ _ _⟩,⟨by repeat (first|(with_reducible first|exact HB.out|apply bal|apply bdN|apply bd1)|exact HB.out)⟩⟩
    case round =>
     clear H';(try clear c2);(try clear p2);(try clear c3);(try clear c3b0);(try clear c4);(try clear p2);obtain ⟨x0_2,x4_2,rfl,HA,HK2,HO_4,HB⟩:=hrel
     cases gk with
     | zero=>exact absurd HA.out (by simp [code_Num.l0])
     | succ k2 =>
      have H:=HA.out;clear HA;simp only [code_Num.l0] at H;by_cases c5:x0_2 > 127
      ·rw [if_pos c5] at H;have c5b0:decide (127 < x0_2)=true:=decide_eq_true c5;clear c5;by_cases c6:x4_2.length < 140737488355328
       ·rw [if_pos c6] at H;have LMc6:=Aside0.mk c6;clear c6;obtain ⟨y129,hy129⟩:∃ y_:List Int,y_=(x4_2 ++ [(Go.bits .or .i64 (Go.bits .and .i64 x0_2 127) 128) % 256]):=⟨_,rfl⟩;(replace H:(code_Num.l0 k2 (x0_2 / 128) y129)=some (r1,r2):=by first|(rw [hy129];with_reducible exact H)|(have H2_:=(Option.bind_some _ _).symm.trans H;rw [hy129];with_reducible exact H2_)|(have H2_:=(Option.bind_some _ _).symm.trans H;with_reducible exact H2_)|with_reducible exact H|(rw [hy129];exact H)|exact H);have Ny129:=Aside0.mk hy129;clear hy129;have H':=Aside0.mk H;clear H;go_wp2_with (first|((with_reducible refine gate_builtin (b:=.append) (xs:=#[.tmp 13,.tmp 18]) rfl ?_);at_builtin;refine Kd.R_append (Kd.int .u8) (w0:=w) w.heap.size rfl (.tmp 13) (.tmp 18) 31 5 (.int .u8 0) 1 rfl Tryd.underlying31 info5 rfl (by decide) (by omega) u4 x4_2 ((Go.bits .or .i64 (Go.bits .and .i64 x0_2 127) 128) % 256) [.int .u8 ((Go.bits .or .i64 (Go.bits .and .i64 x0_2 127) 128) % 256)] (fun _=>True) (fun _=>False) rfl rfl ?aP (fun _ hk=>hk.elim) ?aF ?aO ?aB ?aS ?aL ?_;(case aP=>exact rfl);(case aB=>exact (by repeat (first|(with_reducible first|exact HB.out|apply bal|apply bdN|apply bd1)|exact HB.out)));(case aF=>exact (fun _ _=>trivial));(case aO=>exact (by (with_reducible repeat (first|apply Kd.R_alloc|apply Kd.R_drewN|apply Kd.R_drew));exact HO_4.out));(case aS=>exact (below_size (by repeat (first|(with_reducible first|exact HB.out|apply bal|apply bdN|apply bd1)|exact HB.out))));(case aL=>have:=LMc6.out;omega);intro v130 w7 ho hb hg hat;rw [← Ny129.out] at ho;have n0_:=Aside0.mk (hb);have n1_:=Aside0.mk (ho);clear HB;clear HO_4;have HB:=n0_;have HO131:=n1_;clear n0_ n1_;clear ho hb hg hat));go_roundg k2
        case measure=>have:=HJ1.out;have:=HK2.out;omega
        case rel=>exact ⟨(x0_2 / 128),(y129),(by first|rfl|(simp;done)|(simp [*];done)),H',⟨by have:=HJ1.out;have:=HK2.out;omega⟩,⟨by (with_reducible repeat (first|apply Kd.R_alloc|apply Kd.R_drewN|apply Kd.R_drew));exact HO131.out⟩,⟨by repeat (first|(with_reducible first|exact HB.out|apply bal|apply bdN|apply bd1)|exact HB.out)⟩⟩
       ·rw [if_neg c6] at H;exact absurd H (by simp)
      ·rw [if_neg c5] at H;have c5b0:decide (127 < x0_2)=false:=decide_eq_false c5;clear c5;by_cases c8:x4_2.length < 140737488355328
       ·rw [if_pos c8] at H;have LMc8:=Aside0.mk c8;clear c8;obtain ⟨y132,hy132⟩:∃ y_:List Int,y_=(x4_2 ++ [(x0_2) % 256]):=⟨_,rfl⟩;(replace H:(some (strOfNums y132,0))=some (r1,r2):=by first|(rw [hy132];with_reducible exact H)|(have H2_:=(Option.bind_some _ _).symm.trans H;rw [hy132];with_reducible exact H2_)|(have H2_:=(Option.bind_some _ _).symm.trans H;with_reducible exact H2_)|with_reducible exact H|(rw [hy132];exact H)|exact H);have Ny132:=Aside0.mk hy132;clear hy132;simp only [Option.some.injEq,Prod.mk.injEq] at H;obtain ⟨rfl,rfl⟩:=H;go_wp2_with (first|((with_reducible refine gate_builtin (b:=.append) (xs:=#[.tmp 22,.tmp 25]) rfl ?_);at_builtin;refine Kd.R_append (Kd.int .u8) (w0:=w) w.heap.size rfl (.tmp 22) (.tmp 25) 31 5 (.int .u8 0) 1 rfl Tryd.underlying31 info5 rfl (by decide) (by omega) u4 x4_2 ((x0_2) % 256) [.int .u8 ((x0_2) % 256)] (fun _=>True) (fun _=>False) rfl rfl ?aP (fun _ hk=>hk.elim) ?aF ?aO ?aB ?aS ?aL ?_;(case aP=>exact rfl);(case aB=>exact (by repeat (first|(with_reducible first|exact HB.out|apply bal|apply bdN|apply bd1)|exact HB.out)));(case aF=>exact (fun _ _=>trivial));(case aO=>exact (by (with_reducible repeat (first|apply Kd.R_alloc|apply Kd.R_drewN|apply Kd.R_drew));exact HO_4.out));(case aS=>exact (below_size (by repeat (first|(with_reducible first|exact HB.out|apply bal|apply bdN|apply bd1)|exact HB.out))));(case aL=>have:=LMc8.out;omega);intro v133 w9 ho hb hg hat;rw [← Ny132.out] at ho;have n0_:=Aside0.mk (hb);have n1_:=Aside0.mk (ho);clear HB;clear HO_4;have HB:=n0_;have HO134:=n1_;clear n0_ n1_;clear ho hb hg hat;have hcv10:=own_string (P:=Tryd.prog) Tryd.underlying31 Tryd.underlying5 Tryd.underlying9 (Kd.own_of_R HO134.out)));go_ret2;exact ⟨by first|rfl|(simp [errW_none,errW_some] <;> rfl)|(simp [*,errW_none,errW_some] <;> rfl),by repeat (first|(with_reducible first|exact HB.out|apply bal|apply bdN|apply bd1)|exact HB.out)⟩
       ·rw [if_neg c8] at H;exact absurd H (by simp)
mutual
def barqueref01_Num.j0:Nat→Int→Bool→Option (ByteArray × Int)
 | 0,_,_=>none
 | k + 1,x0,x10=>if x10=true then (some ((⟨#[]⟩:ByteArray),2)) else (barqueref01_Num.l0 k x0 ([]:List Int))
def barqueref01_Num.l0:Nat→Int→List Int→Option (ByteArray × Int)
 | 0,_,_=>none
 | k + 1,x0,x4=>if x0 ≥ 128 then (if x4.length < 140737488355328 then (barqueref01_Num.l0 k (wrap64 (Int.tdiv x0 128)) (x4 ++ [(wrap64 ((Int.tmod x0 128) + 128)) % 256])) else (none)) else (if x4.length < 140737488355328 then (some (strOfNums (x4 ++ [(x0) % 256]),0)) else (none))
end
def barqueref01_Num.f (k:Nat) (a0:Int):Option (ByteArray × Int):=if a0 < 0 then (barqueref01_Num.j0 k a0 true) else (barqueref01_Num.j0 k a0 (decide (a0 > 4611686018427387903)))
set_option maxHeartbeats 8000000 in
set_option maxRecDepth 100000 in
theorem barqueref01_Num.calls (k:Nat) (a0:Int) (r1:ByteArray) (r2:Int) (w:World) (h:barqueref01_Num.f k a0=some (r1,r2)) :
  Calls Tryd.prog 53 #[.int .i64 a0] w fun e w'=>e=.returned (.tuple #[.string r1,.int .i64 r2])∧Below w.heap.size w w':=by
 have HB:=Aside0.mk (Below.refl w.heap.size w);have H:(if a0 < 0 then (barqueref01_Num.j0 k a0 true) else (barqueref01_Num.j0 k a0 (decide (a0 > 4611686018427387903))))=some (r1,r2):=h;clear h;have HC2:=Aside0.mk H;clear H;go_enter Tryd.func53,Tryd.ntmps53;go_upto_region 1 with (fail);go_cut [10] (fun v10 wc=>∃ (kq:Nat) (x10_1:Bool),v10=.bool x10_1∧Aside0 (barqueref01_Num.j0 kq a0 x10_1=some (r1,r2))∧Aside0 (kq≤k)∧Aside0 (Below w.heap.size w wc))
 case first =>
  have H:=HC2.out;clear HC2;by_cases c3:a0 < 0
  ·rw [if_pos c3] at H;have c3b0:decide (a0 < 0)=true:=decide_eq_true c3;clear c3;(first|rw [c3b0]|(simp only [i64_w,i32_w];rw [c3b0])|skip);have H':=Aside0.mk H;clear H;go_wp2;go_meet
   case rel=>exact ⟨_,(true),(by first|rfl|(simp;done)|(simp [*];done)),H',⟨by first|omega|exact Nat.le_refl _⟩,⟨by repeat (first|(with_reducible first|exact HB.out|apply bal|apply bdN|apply bd1)|exact HB.out)⟩⟩
  ·rw [if_neg c3] at H;have c3b0:decide (a0 < 0)=false:=decide_eq_false c3;clear c3;(first|rw [c3b0]|(simp only [i64_w,i32_w];rw [c3b0])|skip);have H':=Aside0.mk H;clear H;go_wp2;go_meet
   case rel=>exact ⟨_,(decide (a0 > 4611686018427387903)),(by first|rfl|(simp;done)|(simp [*];done)),H',⟨by first|omega|exact Nat.le_refl _⟩,⟨by repeat (first|(with_reducible first|exact HB.out|apply bal|apply bdN|apply bd1)|exact HB.out)⟩⟩
 case rest =>
  clear HC2;(try clear p2);(try clear c3);(try clear c3b0);obtain ⟨kq,x10_1,rfl,HA,HJ1,HB⟩:=hcut
  cases kq with
  | zero=>exact absurd HA.out (by simp [barqueref01_Num.j0])
  | succ kj1 =>
   have H:=HA.out;clear HA;simp only [barqueref01_Num.j0] at H;by_cases c4:x10_1=true
   ·subst c4;(have H1:(some ((⟨#[]⟩:ByteArray),2))=some (r1,r2):=by rw [if_pos rfl] at H;exact H);clear H;have H:=H1;clear H1;simp only [Option.some.injEq,Prod.mk.injEq] at H;obtain ⟨rfl,rfl⟩:=H;go_wp2;go_ret2;exact ⟨by first|rfl|(simp [errW_none,errW_some] <;> rfl)|(simp [*,errW_none,errW_some] <;> rfl),by repeat (first|(with_reducible first|exact HB.out|apply bal|apply bdN|apply bd1)|exact HB.out)⟩
   ·replace c4:=Bool.eq_false_iff.mpr c4;subst c4;(have H1:(barqueref01_Num.l0 kj1 a0 ([]:List Int))=some (r1,r2):=by rw [if_neg (show ¬ (false=true) by decide)] at H;exact H);clear H;have H:=H1;clear H1;have H':=Aside0.mk H;clear H;go_wp2;go_loopg [0,4] kj1 (fun kq v0 v4 w'=>∃ (x0_2:Int) (x4_2:List Int),v0=.int .i64 x0_2∧Aside0 (barqueref01_Num.l0 kq x0_2 x4_2=some (r1,r2))∧Aside0 (kq≤kj1)∧Aside0 (Kd.R (Kd.int .u8) 5 w' w.heap.size (fun _=>True) v4 x4_2)∧Aside0 (Below w.heap.size w w'))
    case atStart=>exact ⟨(a0),(([]:List Int)),(by first|rfl|(simp;done)|(simp [*];done)),H',⟨Nat.le_refl _⟩,⟨by first|exact Kd.R_nil _ _ _ _ _|exact Kd.N_nil _ _ _ _ _|exact Kd.V_nil _ _ _ _ _|exact Kd.Q_nil _ _ _ _ _|exact Kd.S_nil _ _ _ _ _⟩,⟨by repeat (first|(with_reducible first|exact HB.out|apply bal|apply bdN|apply bd1)|exact HB.out)⟩⟩
    case round =>
     clear H';(try clear p2);(try clear c3);(try clear c3b0);(try clear c4);(try clear p2);obtain ⟨x0_2,x4_2,rfl,HA,HK2,HO_4,HB⟩:=hrel
     cases gk with
     | zero=>exact absurd HA.out (by simp [barqueref01_Num.l0])
     | succ k2 =>
      have H:=HA.out;clear HA;simp only [barqueref01_Num.l0] at H;by_cases c5:x0_2 ≥ 128
      ·rw [if_pos c5] at H;have c5b0:decide (128≤x0_2)=true:=decide_eq_true c5;clear c5;by_cases c6:x4_2.length < 140737488355328
       ·rw [if_pos c6] at H;have LMc6:=Aside0.mk c6;clear c6;obtain ⟨y164,hy164⟩:∃ y_:List Int,y_=(x4_2 ++ [(wrap64 ((Int.tmod x0_2 128) + 128)) % 256]):=⟨_,rfl⟩;(replace H:(barqueref01_Num.l0 k2 (wrap64 (Int.tdiv x0_2 128)) y164)=some (r1,r2):=by first|(rw [hy164];with_reducible exact H)|(have H2_:=(Option.bind_some _ _).symm.trans H;rw [hy164];with_reducible exact H2_)|(have H2_:=(Option.bind_some _ _).symm.trans H;with_reducible exact H2_)|with_reducible exact H|(rw [hy164];exact H)|exact H);have Ny164:=Aside0.mk hy164;clear hy164;have H':=Aside0.mk H;clear H;go_wp2_with (first|((with_reducible refine gate_builtin (b:=.append) (xs:=#[.tmp 13,.tmp 18]) rfl ?_);at_builtin;refine Kd.R_append (Kd.int .u8) (w0:=w) w.heap.size rfl (.tmp 13) (.tmp 18) 31 5 (.int .u8 0) 1 rfl Tryd.underlying31 info5 rfl (by decide) (by omega) u4 x4_2 ((wrap64 ((Int.tmod x0_2 128) + 128)) % 256) [.int .u8 ((wrap64 ((Int.tmod x0_2 128) + 128)) % 256)] (fun _=>True) (fun _=>False) rfl rfl ?aP (fun _ hk=>hk.elim) ?aF ?aO ?aB ?aS ?aL ?_;(case aP=>exact rfl);(case aB=>exact (by repeat (first|(with_reducible first|exact HB.out|apply bal|apply bdN|apply bd1)|exact HB.out)));(case aF=>exact (fun _ _=>trivial));(case aO=>exact (by (with_reducible repeat (first|apply Kd.R_alloc|apply Kd.R_drewN|apply Kd.R_drew));exact HO_4.out));(case aS=>exact (below_size (by repeat (first|(with_reducible first|exact HB.out|apply bal|apply bdN|apply bd1)|exact HB.out))));(case aL=>have:=LMc6.out;omega);intro v165 w7 ho hb hg hat;rw [← Ny164.out] at ho;have n0_:=Aside0.mk (hb);have n1_:=Aside0.mk (ho);clear HB;clear HO_4;have HB:=n0_;have HO166:=n1_;clear n0_ n1_;clear ho hb hg hat));go_roundg k2
        case measure=>have:=HJ1.out;have:=HK2.out;omega
        case rel=>exact ⟨(wrap64 (Int.tdiv x0_2 128)),(y164),(by first|rfl|(simp;done)|(simp [*];done)),H',⟨by have:=HJ1.out;have:=HK2.out;omega⟩,⟨by (with_reducible repeat (first|apply Kd.R_alloc|apply Kd.R_drewN|apply Kd.R_drew));exact HO166.out⟩,⟨by repeat (first|(with_reducible first|exact HB.out|apply bal|apply bdN|apply bd1)|exact HB.out)⟩⟩
       ·rw [if_neg c6] at H;exact absurd H (by simp)
      ·rw [if_neg c5] at H;have c5b0:decide (128≤x0_2)=false:=decide_eq_false c5;clear c5;by_cases c8:x4_2.length < 140737488355328
       ·rw [if_pos c8] at H;have LMc8:=Aside0.mk c8;clear c8;obtain ⟨y167,hy167⟩:∃ y_:List Int,y_=(x4_2 ++ [(x0_2) % 256]):=⟨_,rfl⟩;(replace H:(some (strOfNums y167,0))=some (r1,r2):=by first|(rw [hy167];with_reducible exact H)|(have H2_:=(Option.bind_some _ _).symm.trans H;rw [hy167];with_reducible exact H2_)|(have H2_:=(Option.bind_some _ _).symm.trans H;with_reducible exact H2_)|with_reducible exact H|(rw [hy167];exact H)|exact H);have Ny167:=Aside0.mk hy167;clear hy167;simp only [Option.some.injEq,Prod.mk.injEq] at H;obtain ⟨rfl,rfl⟩:=H;go_wp2_with (first|((with_reducible refine gate_builtin (b:=.append) (xs:=#[.tmp 22,.tmp 25]) rfl ?_);at_builtin;refine Kd.R_append (Kd.int .u8) (w0:=w) w.heap.size rfl (.tmp 22) (.tmp 25) 31 5 (.int .u8 0) 1 rfl Tryd.underlying31 info5 rfl (by decide) (by omega) u4 x4_2 ((x0_2) % 256) [.int .u8 ((x0_2) % 256)] (fun _=>True) (fun _=>False) rfl rfl ?aP (fun _ hk=>hk.elim) ?aF ?aO ?aB ?aS ?aL ?_;(case aP=>exact rfl);(case aB=>exact (by repeat (first|(with_reducible first|exact HB.out|apply bal|apply bdN|apply bd1)|exact HB.out)));(case aF=>exact (fun _ _=>trivial));(case aO=>exact (by (with_reducible repeat (first|apply Kd.R_alloc|apply Kd.R_drewN|apply Kd.R_drew));exact HO_4.out));(case aS=>exact (below_size (by repeat (first|(with_reducible first|exact HB.out|apply bal|apply bdN|apply bd1)|exact HB.out))));(case aL=>have:=LMc8.out;omega);intro v168 w9 ho hb hg hat;rw [← Ny167.out] at ho;have n0_:=Aside0.mk (hb);have n1_:=Aside0.mk (ho);clear HB;clear HO_4;have HB:=n0_;have HO169:=n1_;clear n0_ n1_;clear ho hb hg hat;have hcv10:=own_string (P:=Tryd.prog) Tryd.underlying31 Tryd.underlying5 Tryd.underlying9 (Kd.own_of_R HO169.out)));go_ret2;exact ⟨by first|rfl|(simp [errW_none,errW_some] <;> rfl)|(simp [*,errW_none,errW_some] <;> rfl),by repeat (first|(with_reducible first|exact HB.out|apply bal|apply bdN|apply bd1)|exact HB.out)⟩
       ·rw [if_neg c8] at H;exact absurd H (by simp)
def barqueref01_Bytes.f (k:Nat) (a0:Int):Option (ByteArray):=(barqueref01_Num.f k a0).bind fun bt170=>(some bt170.1)
set_option maxHeartbeats 8000000 in
set_option maxRecDepth 100000 in
theorem barqueref01_Bytes.calls (k:Nat) (a0:Int) (r:ByteArray) (w:World) (h:barqueref01_Bytes.f k a0=some r) :
  Calls Tryd.prog 34 #[.int .i64 a0] w fun e w'=>e=.returned (.string r)∧Below w.heap.size w w':=by
 have HB:=Aside0.mk (Below.refl w.heap.size w);have H:((barqueref01_Num.f k a0).bind fun bt170=>(some bt170.1))=some r:=h;clear h;replace H:=Option.bind_eq_some_iff.mp H;obtain ⟨⟨t170,t171⟩,A20,H⟩:=H;replace H:(some t170)=some r:=H;have A2:=Aside0.mk A20;clear A20;obtain rfl:=Option.some.inj H;go_enter Tryd.func34,Tryd.ntmps34;go_wp2_with (first|((with_reducible refine gate_callee (f:=53) rfl ?_);refine goesL_ (some 7) rfl rfl Tryd.func53 (by kernel_rfl) rfl #[.int .i64 a0] rfl (by (try simp only [List.map_toArray,List.map_cons,List.map_nil]);first|done|rfl|(simp only [List.length_drop,List.length_take];rfl)) ?_;(with_reducible refine (barqueref01_Num.calls k a0 t170 t171 _ A2.out).mono ?_);rintro e w3 ⟨rfl,hb⟩;refine ⟨_,rfl,?_⟩;have n0_:=Aside0.mk (below_step (by repeat (first|(with_reducible first|exact HB.out|apply bal|apply bdN|apply bd1)|exact HB.out)) hb);clear HB;have HB:=n0_;clear n0_;(try clear hb);(try clear hb2);(try clear hk);(try clear hi)));go_ret;exact ⟨by first|rfl|(simp [errW_none,errW_some] <;> rfl)|(simp [*,errW_none,errW_some] <;> rfl),by repeat (first|(with_reducible first|exact HB.out|apply bal|apply bdN|apply bd1)|exact HB.out)⟩
def barqueref01_Text.f (k:Nat) (a0:ByteArray):Option (ByteArray × Int):=if (a0.size:Int) > 1048576 then (some ((⟨#[]⟩:ByteArray),4)) else ((barqueref01_Bytes.f k (a0.size:Int)).bind fun t172=>(if t172.size + a0.size≤9223372036854775807 then (some (t172 ++ a0,0)) else (none)))
set_option maxHeartbeats 8000000 in
set_option maxRecDepth 100000 in
theorem barqueref01_Text.calls (k:Nat) (a0:ByteArray) (r1:ByteArray) (r2:Int) (w:World) (h:barqueref01_Text.f k a0=some (r1,r2)) :
  Calls Tryd.prog 35 #[.string a0] w fun e w'=>e=.returned (.tuple #[.string r1,.int .i64 r2])∧Below w.heap.size w w':=by
 have HB:=Aside0.mk (Below.refl w.heap.size w);have H:(if (a0.size:Int) > 1048576 then (some ((⟨#[]⟩:ByteArray),4)) else ((barqueref01_Bytes.f k (a0.size:Int)).bind fun t172=>(if t172.size + a0.size≤9223372036854775807 then (some (t172 ++ a0,0)) else (none))))=some (r1,r2):=h;clear h;by_cases c2:(a0.size:Int) > 1048576
 ·rw [if_pos c2] at H;have c2b0:decide (1048576 < (a0.size:Int))=true:=decide_eq_true c2;have c2b1:decide (1048576 < a0.size)=true:=decide_eq_true (by omega);clear c2;simp only [Option.some.injEq,Prod.mk.injEq] at H;obtain ⟨rfl,rfl⟩:=H;go_enter Tryd.func35,Tryd.ntmps35;go_wp2;go_ret2;exact ⟨by first|rfl|(simp [errW_none,errW_some] <;> rfl)|(simp [*,errW_none,errW_some] <;> rfl),by repeat (first|(with_reducible first|exact HB.out|apply bal|apply bdN|apply bd1)|exact HB.out)⟩
 ·rw [if_neg c2] at H;have c2b0:decide (1048576 < (a0.size:Int))=false:=decide_eq_false c2;have c2b1:decide (1048576 < a0.size)=false:=decide_eq_false (by omega);clear c2;replace H:=Option.bind_eq_some_iff.mp H;obtain ⟨t172,A30,H⟩:=H;replace H:(if t172.size + a0.size≤9223372036854775807 then (some (t172 ++ a0,0)) else (none))=some (r1,r2):=H;have A3:=Aside0.mk A30;clear A30;by_cases c4:t172.size + a0.size≤9223372036854775807
  ·rw [if_pos c4] at H;have c4b0:=eq_true c4;have c4b1:decide (t172.size + a0.size≤9223372036854775807)=true:=decide_eq_true c4;(try have c4b2:(9223372036854775807 < t172.size + a0.size)=False:=eq_false (Nat.not_lt.2 c4));(try (have c4b3:=c4b2;simp only [ByteArray.size_append] at c4b3));simp only [Option.some.injEq,Prod.mk.injEq] at H;obtain ⟨rfl,rfl⟩:=H;go_enter Tryd.func35,Tryd.ntmps35;go_wp2_with (first|((with_reducible refine gate_callee (f:=34) rfl ?_);refine goesL_ (some 9) rfl rfl Tryd.func34 (by kernel_rfl) rfl #[.int .i64 (a0.size:Int)] rfl (by (try simp only [List.map_toArray,List.map_cons,List.map_nil]);first|done|rfl|(simp only [List.length_drop,List.length_take];rfl)) ?_;(with_reducible refine (barqueref01_Bytes.calls k (a0.size:Int) t172 _ A3.out).mono ?_);rintro e w5 ⟨rfl,hb⟩;refine ⟨_,rfl,?_⟩;have n0_:=Aside0.mk (below_step (by repeat (first|(with_reducible first|exact HB.out|apply bal|apply bdN|apply bd1)|exact HB.out)) hb);clear HB;have HB:=n0_;clear n0_;(try clear hb);(try clear hb2);(try clear hk);(try clear hi)));go_ret2;exact ⟨by first|rfl|(simp [errW_none,errW_some] <;> rfl)|(simp [*,errW_none,errW_some] <;> rfl),by repeat (first|(with_reducible first|exact HB.out|apply bal|apply bdN|apply bd1)|exact HB.out)⟩
  ·rw [if_neg c4] at H;exact absurd H (by simp)
end Go.Proofs.YtmeofdpmddjbgaaDoor.G
end
section
namespace Go.Proofs.YtmeofdpmddjbgaaDoor.G
open Go.RowKit Go.Proofs.YtmeofdpmddjbgaaDoorW.PrintWords Go.Proofs.YtmeofdpmddjbgaaDoorW.PrintLast Go.Proofs.YtmeofdpmddjbgaaDoorW.PrintMore
set_option linter.unusedVariables false
set_option linter.unusedSimpArgs false
def numL (n:Nat):List Int:=if h:n < 128 then [(n:Int)] else ((n % 128 + 128:Nat):Int) :: numL (n / 128)
termination_by n
decreasing_by omega
theorem numL_small (n:Nat) (h:n < 128):numL n=[(n:Int)]:=by rw [numL,dif_pos h]
theorem numL_big (n:Nat) (h:¬ n < 128):numL n=((n % 128 + 128:Nat):Int) :: numL (n / 128):=by rw [numL,dif_neg h]
theorem numL_length:∀ (d n:Nat),n < 128 ^ (d + 1)→(numL n).length≤d + 1
 | 0,n,h=>by
  rw [numL_small n (by simpa using h)]
  exact Nat.le_refl _
 | d + 1,n,h=>by
  by_cases c:n < 128
  ·rw [numL_small n c];simp
  ·rw [numL_big n c,List.length_cons]
   have:=numL_length d (n / 128) (by
    rw [Nat.pow_succ] at h
    exact Nat.div_lt_of_lt_mul (by rw [Nat.mul_comm];exact h))
   omega
theorem numL_nine (n:Nat) (h:n≤4611686018427387903):(numL n).length≤9:=numL_length 8 n (Nat.lt_of_le_of_lt h (by decide))
theorem wraps63_ (n:Int) (h0:0≤n) (h1:n < 2 ^ 63):IntKind.i64.wrap n=n:=by
 rw [IntKind.wrap_i64]
 omega
theorem or128_ (y:Int) (h0:0≤y) (h1:y < 128):Go.bits .or .i64 y 128=y + 128:=by
 have hc:Go.bits .or .i64 y 128=Go.bits .or .i64 128 y:=by simp only [Go.bits,BitVec.or_comm]
 rw [hc,Go.bits_join .i64 63 (by decide) wraps63_ 7 128 y (by decide) (by decide) (by decide) h0 (by omega) (by omega)]
 omega
theorem num_l0:∀ (m n:Nat) (acc:List Int),n≤m→n≤4611686018427387903→acc.length + (numL n).length≤4294967296 →
  Ev (fun k=>code_Num.l0 k (n:Int) acc) (strOfNums (acc ++ numL n),0):=by
 intro m
 induction m using Nat.strongRecOn with
 | _ m ih =>
 intro n acc hm hn ha
 have hac:acc.length < 140737488355328:=by omega
 apply Ev.step
 ·intro k;rw [code_Num.l0]
 by_cases c:n < 128
 ·have c1:¬ ((n:Int) > 127):=by omega
  have c2:(n:Int) % 256=(n:Int):=by omega
  simp only [c1,hac,↓reduceIte,c2]
  rw [numL_small n c]
  exact Ev.now _
 ·have c1:((n:Int) > 127):=by omega
  have c2:(Go.bits .or .i64 (Go.bits .and .i64 (n:Int) 127) 128) % 256=((n % 128 + 128:Nat):Int):=by
   rw [Go.i64_and127,or128_ _ (by omega) (by omega)]
   omega
  have c3:(n:Int) / 128=((n / 128:Nat):Int):=by omega
  rw [numL_big n c] at ha ⊢
  simp only [c1,hac,↓reduceIte,c2,c3]
  have:=ih (n / 128) (by omega) (n / 128) (acc ++ [((n % 128 + 128:Nat):Int)]) (Nat.le_refl _) (by omega) (by rw [List.length_append,List.length_singleton];rw [List.length_cons] at ha;omega)
  rw [List.append_assoc,List.singleton_append] at this
  exact this
theorem refnum_l0:∀ (m n:Nat) (acc:List Int),n≤m→n≤4611686018427387903→acc.length + (numL n).length≤4294967296 →
  Ev (fun k=>barqueref01_Num.l0 k (n:Int) acc) (strOfNums (acc ++ numL n),0):=by
 intro m
 induction m using Nat.strongRecOn with
 | _ m ih =>
 intro n acc hm hn ha
 have hac:acc.length < 140737488355328:=by omega
 apply Ev.step
 ·intro k;rw [barqueref01_Num.l0]
 by_cases c:n < 128
 ·have c1:¬ ((n:Int) ≥ 128):=by omega
  have c2:(n:Int) % 256=(n:Int):=by omega
  simp only [c1,hac,↓reduceIte,c2]
  rw [numL_small n c]
  exact Ev.now _
 ·have c1:((n:Int) ≥ 128):=by omega
  have t1:Int.tmod (n:Int) 128=((n % 128:Nat):Int):=by rw [Int.tmod_eq_emod_of_nonneg (by omega)];omega
  have t2:Int.tdiv (n:Int) 128=((n / 128:Nat):Int):=by rw [Int.tdiv_eq_ediv_of_nonneg (by omega)];omega
  have c2:(wrap64 (Int.tmod (n:Int) 128 + 128)) % 256=((n % 128 + 128:Nat):Int):=by
   rw [t1,w64_ (by omega) (by omega)]
   omega
  have c3:wrap64 (Int.tdiv (n:Int) 128)=((n / 128:Nat):Int):=by rw [t2,w64_ (by omega) (by omega)]
  rw [numL_big n c] at ha ⊢
  simp only [c1,hac,↓reduceIte,c2,c3]
  have:=ih (n / 128) (by omega) (n / 128) (acc ++ [((n % 128 + 128:Nat):Int)]) (Nat.le_refl _) (by omega) (by rw [List.length_append,List.length_singleton];rw [List.length_cons] at ha;omega)
  rw [List.append_assoc,List.singleton_append] at this
  exact this
@[irreducible] def numE (n:Int):ByteArray × Int:=if n < 0∨4611686018427387903 < n then (⟨#[]⟩,2) else (strOfNums (numL n.toNat),0)
theorem num_ev (n:Int):Ev (fun k=>code_Num.f k n) (numE n):=by
 unfold code_Num.f
 have hj:∀ b:Bool,b=decide (n < 0∨4611686018427387903 < n)→Ev (fun k=>code_Num.j0 k n b) (numE n):=fun b hb=>by
  apply Ev.step
  ·intro k;rw [code_Num.j0]
  unfold numE
  cases b with
  | true =>
   have h:=of_decide_eq_true hb.symm
   rw [if_pos h]
   simp only [↓reduceIte]
   exact Ev.now _
  | false =>
   have h:=of_decide_eq_false hb.symm
   rw [if_neg h]
   simp only [Bool.false_eq_true,↓reduceIte]
   obtain ⟨m,rfl⟩:∃ m:Nat,n=(m:Int):=⟨n.toNat,by omega⟩
   have h9:=numL_nine m (by omega)
   have:=num_l0 m m [] (Nat.le_refl _) (by omega) (by rw [List.length_nil];omega)
   simpa using this
 by_cases h:n < 0
 ·simp only [h,↓reduceIte]
  exact hj true (by simp [h])
 ·simp only [h,↓reduceIte]
  exact hj _ (by simp [h])
theorem refnum_ev (n:Int):Ev (fun k=>barqueref01_Num.f k n) (numE n):=by
 unfold barqueref01_Num.f
 have hj:∀ b:Bool,b=decide (n < 0∨4611686018427387903 < n)→Ev (fun k=>barqueref01_Num.j0 k n b) (numE n):=fun b hb=>by
  apply Ev.step
  ·intro k;rw [barqueref01_Num.j0]
  unfold numE
  cases b with
  | true =>
   have h:=of_decide_eq_true hb.symm
   rw [if_pos h]
   simp only [↓reduceIte]
   exact Ev.now _
  | false =>
   have h:=of_decide_eq_false hb.symm
   rw [if_neg h]
   simp only [Bool.false_eq_true,↓reduceIte]
   obtain ⟨m,rfl⟩:∃ m:Nat,n=(m:Int):=⟨n.toNat,by omega⟩
   have h9:=numL_nine m (by omega)
   have:=refnum_l0 m m [] (Nat.le_refl _) (by omega) (by rw [List.length_nil];omega)
   simpa using this
 by_cases h:n < 0
 ·simp only [h,↓reduceIte]
  exact hj true (by simp [h])
 ·simp only [h,↓reduceIte]
  exact hj _ (by simp [h])
theorem refbytes_ev (n:Int):Ev (fun k=>barqueref01_Bytes.f k n) (numE n).1:=by
 unfold barqueref01_Bytes.f
 exact Ev.bind (refnum_ev n) (Ev.now _)
theorem numE_size (n:Int):(numE n).1.size≤9:=by
 unfold numE
 split
 ·exact Nat.zero_le _
 ·rename_i h
  show (strOfNums (numL n.toNat)).size≤9
  rw [strOfNums_size]
  exact numL_nine _ (by omega)

def numB (n:Int):List UInt8:=(numE n).1.data.toList
theorem numB_length (n:Int):(numB n).length≤9:=by
 unfold numB
 rw [sz_]
 exact numE_size n
theorem app_list_ (a b:ByteArray):(a ++ b).data.toList=a.data.toList ++ b.data.toList:=by simp [ByteArray.data_append]
theorem reftext_ev (a:ByteArray) (h:a.size≤1048576):Ev (fun k=>barqueref01_Text.f k a) ((numE (a.size:Int)).1 ++ a,0):=by
 unfold barqueref01_Text.f
 have c1:¬ (a.size:Int) > 1048576:=by omega
 have h9:=numE_size (a.size:Int)
 simp only [c1,↓reduceIte]
 refine Ev.bind (refbytes_ev _) ?_
 have c2:(numE (a.size:Int)).1.size + a.size≤9223372036854775807:=by omega
 simp only [c2,↓reduceIte]
 exact Ev.now _
end Go.Proofs.YtmeofdpmddjbgaaDoor.G
end
section
namespace Go.Proofs.YtmeofdpmddjbgaaDoor.G
open Go.RowKit Go.Proofs.YtmeofdpmddjbgaaDoorW.PrintWords Go.Proofs.YtmeofdpmddjbgaaDoorW.PrintLast Go.Proofs.YtmeofdpmddjbgaaDoorW.PrintMore
attribute [local go_sem] max2_int min2_int max_two min_two max_three min_three max_four min_four   
set_option linter.unusedVariables false
set_option linter.unusedSimpArgs false
def tree_Order.l0:Nat→ByteArray→ByteArray→Int→Int→Option (Int)
 | 0,_,_,_,_=>none
 | k + 1,x0,x1,x12,x13=>if x13 < x12 then (if 0≤x13 then (if x13 < (x0.size:Int) then (if x13 < (x1.size:Int) then (if (wrap64 (bt x0 x13))=(wrap64 (bt x1 x13)) then (tree_Order.l0 k x0 x1 x12 (wrap64 (x13 + 1))) else (if (wrap64 (bt x0 x13))=47 then (some (-1)) else (if (wrap64 (bt x1 x13))=47 then (some 1) else (some (wrap64 ((wrap64 (bt x0 x13)) - (wrap64 (bt x1 x13)))))))) else (none)) else (none)) else (none)) else (some (wrap64 ((x0.size:Int) - (x1.size:Int))))
def tree_Order.f (k:Nat) (a0:ByteArray) (a1:ByteArray):Option (Int):=tree_Order.l0 k a0 a1 (mn (a0.size:Int) (a1.size:Int)) 0
theorem tree_Order.mono_l:∀ k,(∀ y0 y1 y2 y3,LeO (tree_Order.l0 k y0 y1 y2 y3) (tree_Order.l0 (k + 1) y0 y1 y2 y3))
 | 0=>fun _ _ _ _ r h=>by simp [tree_Order.l0] at h
 | k + 1=>by
  have ih0:=tree_Order.mono_l k
  ·intro y0 y1 y2 y3
   unfold tree_Order.l0
   repeat' first
   | (with_reducible exact ih0 _ _ _ _)
   | (with_reducible exact LeO.refl _)
   | (with_reducible exact LeO.none _)
   | (with_reducible refine LeO.ite ?_ ?_)
   | (with_reducible refine LeO.bind ?_ (fun _=>?_))
   | exact ih0 _ _ _ _
   | exact LeO.none _
   | refine LeO.ite ?_ ?_
   | refine LeO.bind ?_ (fun _=>?_)
theorem tree_Order.mono:∀ a0 a1 k,LeO (tree_Order.f k a0 a1) (tree_Order.f (k + 1) a0 a1):=by
 intro a0 a1 k
 have ih0:=tree_Order.mono_l k
 unfold tree_Order.f
 repeat' first
   | (with_reducible exact ih0 _ _ _ _)
   | (with_reducible exact LeO.refl _)
   | (with_reducible exact LeO.none _)
   | (with_reducible refine LeO.ite ?_ ?_)
   | (with_reducible refine LeO.bind ?_ (fun _=>?_))
   | exact ih0 _ _ _ _
   | exact LeO.none _
   | refine LeO.ite ?_ ?_
   | refine LeO.bind ?_ (fun _=>?_)
set_option maxHeartbeats 8000000 in
set_option maxRecDepth 100000 in
theorem tree_Order.calls (k:Nat) (a0:ByteArray) (a1:ByteArray) (r:Int) (w:World) (h:tree_Order.f k a0 a1=some r) :
  Calls Tryd.prog 63 #[.string a0,.string a1] w fun e w'=>e=.returned (.int .i64 r)∧Below w.heap.size w w':=by
 have HB:=Aside0.mk (Below.refl w.heap.size w);have H:(tree_Order.l0 k a0 a1 (mn (a0.size:Int) (a1.size:Int)) 0)=some r:=h;clear h;obtain ⟨ji3,hji3⟩:∃ j_:Int,(mn (a0.size:Int) (a1.size:Int))=j_:=⟨_,rfl⟩;(replace H:(tree_Order.l0 k a0 a1 ji3 0)=some r:=by first|(rw [hji3] at H;exact H)|(simp only [hji3] at H ⊢;exact H));(try (have hji3l:0≤ji3:=by (rw [← hji3];unfold mn;(repeat' split) <;> omega)));(try (have hji3m:0≤ji3:=by omega));have hji3_:(if (a1.size:Int) < (a0.size:Int) then (a1.size:Int) else (a0.size:Int))=ji3:=hji3;(have hji3n:(if a1.size < a0.size then (a1.size:Int) else (a0.size:Int))=ji3:=by rw [← hji3];unfold mn;simp only [Int.ofNat_lt]);have H':=Aside0.mk H;clear H;go_enter Tryd.func63,Tryd.ntmps63;go_wp2;(repeat (go_quiet (fail);try go_wp2));go_loopg [13] k (fun kq v13 w'=>∃ (x13_1:Int),v13=.int .i64 x13_1∧Aside0 (tree_Order.l0 kq a0 a1 ji3 x13_1=some r)∧Aside0 (kq≤k)∧Aside0 (Below w.heap.size w w'))
 case atStart=>exact ⟨(0),(by first|rfl|(simp;done)|(simp [*];done)),H',⟨Nat.le_refl _⟩,⟨by repeat (first|(with_reducible first|exact HB.out|apply bal|apply bdN|apply bd1)|exact HB.out)⟩⟩
 case round =>
  clear H';(try clear p2);obtain ⟨x13_1,rfl,HA,HK1,HB⟩:=hrel
  cases gk with
  | zero=>exact absurd HA.out (by simp [tree_Order.l0])
  | succ k1 =>
   have H:=HA.out;clear HA;simp only [tree_Order.l0] at H;by_cases c4:x13_1 < ji3
   ·rw [if_pos c4] at H;have c4b0:decide (x13_1 < ji3)=true:=decide_eq_true c4;clear c4;by_cases c5:0≤x13_1
    ·rw [if_pos c5] at H;have c5b0:decide (0≤x13_1)=true:=decide_eq_true c5;clear c5;by_cases c6:x13_1 < (a0.size:Int)
     ·rw [if_pos c6] at H;have c6b0:decide (x13_1 < (a0.size:Int))=true:=decide_eq_true c6;clear c6;by_cases c8:x13_1 < (a1.size:Int)
      ·rw [if_pos c8] at H;have c8b0:decide (x13_1 < (a1.size:Int))=true:=decide_eq_true c8;clear c8;by_cases c10:(wrap64 (bt a0 x13_1))=(wrap64 (bt a1 x13_1))
       ·rw [if_pos c10] at H;have c10b0:((wrap64 (bt a0 x13_1)) == (wrap64 (bt a1 x13_1)))=true:=beq_iff_eq.mpr c10;have c10b1:((wrap64 (bt a0 x13_1)) != (wrap64 (bt a1 x13_1)))=false:=bne_eq_false_iff_eq.mpr c10;clear c10;have H':=Aside0.mk H;clear H;have p7:0≤(x13_1:Int):=of_decide_eq_true (by first|(with_reducible assumption)|assumption);have q7:x13_1 < (a0.size:Int):=of_decide_eq_true (by first|(with_reducible assumption)|assumption);have hx7:=bt_at a0 x13_1;replace p7:=eq_true p7;replace q7:=eq_true q7;have p9:0≤(x13_1:Int):=of_decide_eq_true (by first|(with_reducible assumption)|assumption);have q9:x13_1 < (a1.size:Int):=of_decide_eq_true (by first|(with_reducible assumption)|assumption);have hx9:=bt_at a1 x13_1;replace p9:=eq_true p9;replace q9:=eq_true q9;go_wp2;(repeat (go_quiet (fail);try go_wp2));go_roundg k1
        case measure=>have:=HK1.out;omega
        case rel=>exact ⟨(wrap64 (x13_1 + 1)),(by first|rfl|(simp;done)|(simp [*];done)),H',⟨by have:=HK1.out;omega⟩,⟨by repeat (first|(with_reducible first|exact HB.out|apply bal|apply bdN|apply bd1)|exact HB.out)⟩⟩
       ·rw [if_neg c10] at H;have c10b0:((wrap64 (bt a0 x13_1)) == (wrap64 (bt a1 x13_1)))=false:=beq_eq_false_iff_ne.mpr c10;have c10b1:((wrap64 (bt a0 x13_1)) != (wrap64 (bt a1 x13_1)))=true:=bne_iff_ne.mpr c10;by_cases c11:(wrap64 (bt a0 x13_1))=47
        ·rw [if_pos c11] at H;have c11b0:((wrap64 (bt a0 x13_1)) == 47)=true:=beq_iff_eq.mpr c11;have c11b1:((wrap64 (bt a0 x13_1)) != 47)=false:=bne_eq_false_iff_eq.mpr c11;clear c11;obtain rfl:=Option.some.inj H;have p7:0≤(x13_1:Int):=of_decide_eq_true (by first|(with_reducible assumption)|assumption);have q7:x13_1 < (a0.size:Int):=of_decide_eq_true (by first|(with_reducible assumption)|assumption);have hx7:=bt_at a0 x13_1;replace p7:=eq_true p7;replace q7:=eq_true q7;have p9:0≤(x13_1:Int):=of_decide_eq_true (by first|(with_reducible assumption)|assumption);have q9:x13_1 < (a1.size:Int):=of_decide_eq_true (by first|(with_reducible assumption)|assumption);have hx9:=bt_at a1 x13_1;replace p9:=eq_true p9;replace q9:=eq_true q9;go_wp2;(repeat (go_quiet (fail);try go_wp2));go_ret;exact ⟨by first|rfl|(simp [errW_none,errW_some] <;> rfl)|(simp only [← hji3];first|rfl|(simp [errW_none,errW_some] <;> rfl))|(simp [*,errW_none,errW_some] <;> rfl),by repeat (first|(with_reducible first|exact HB.out|apply bal|apply bdN|apply bd1)|exact HB.out)⟩
        ·rw [if_neg c11] at H;have c11b0:((wrap64 (bt a0 x13_1)) == 47)=false:=beq_eq_false_iff_ne.mpr c11;have c11b1:((wrap64 (bt a0 x13_1)) != 47)=true:=bne_iff_ne.mpr c11;by_cases c12:(wrap64 (bt a1 x13_1))=47
         ·rw [if_pos c12] at H;have c12b0:((wrap64 (bt a1 x13_1)) == 47)=true:=beq_iff_eq.mpr c12;have c12b1:((wrap64 (bt a1 x13_1)) != 47)=false:=bne_eq_false_iff_eq.mpr c12;clear c12;obtain rfl:=Option.some.inj H;have p7:0≤(x13_1:Int):=of_decide_eq_true (by first|(with_reducible assumption)|assumption);have q7:x13_1 < (a0.size:Int):=of_decide_eq_true (by first|(with_reducible assumption)|assumption);have hx7:=bt_at a0 x13_1;replace p7:=eq_true p7;replace q7:=eq_true q7;have p9:0≤(x13_1:Int):=of_decide_eq_true (by first|(with_reducible assumption)|assumption);have q9:x13_1 < (a1.size:Int):=of_decide_eq_true (by first|(with_reducible assumption)|assumption);have hx9:=bt_at a1 x13_1;replace p9:=eq_true p9;replace q9:=eq_true q9;go_wp2;(repeat (go_quiet (fail);try go_wp2));go_ret;exact ⟨by first|rfl|(simp [errW_none,errW_some] <;> rfl)|(simp only [← hji3];first|rfl|(simp [errW_none,errW_some] <;> rfl))|(simp [*,errW_none,errW_some] <;> rfl),by repeat (first|(with_reducible first|exact HB.out|apply bal|apply bdN|apply bd1)|exact HB.out)⟩
         ·rw [if_neg c12] at H;have c12b0:((wrap64 (bt a1 x13_1)) == 47)=false:=beq_eq_false_iff_ne.mpr c12;have c12b1:((wrap64 (bt a1 x13_1)) != 47)=true:=bne_iff_ne.mpr c12;obtain rfl:=Option.some.inj H;have p7:0≤(x13_1:Int):=of_decide_eq_true (by first|(with_reducible assumption)|assumption);have q7:x13_1 < (a0.size:Int):=of_decide_eq_true (by first|(with_reducible assumption)|assumption);have hx7:=bt_at a0 x13_1;replace p7:=eq_true p7;replace q7:=eq_true q7;have p9:0≤(x13_1:Int):=of_decide_eq_true (by first|(with_reducible assumption)|assumption);have q9:x13_1 < (a1.size:Int):=of_decide_eq_true (by first|(with_reducible assumption)|assumption);have hx9:=bt_at a1 x13_1;replace p9:=eq_true p9;replace q9:=eq_true q9;go_wp2;(repeat (go_quiet (fail);try go_wp2));go_ret;exact ⟨by first|rfl|(simp [errW_none,errW_some] <;> rfl)|(simp only [← hji3];first|rfl|(simp [errW_none,errW_some] <;> rfl))|(simp [*,errW_none,errW_some] <;> rfl),by repeat (first|(with_reducible first|exact HB.out|apply bal|apply bdN|apply bd1)|exact HB.out)⟩
      ·rw [if_neg c8] at H;exact absurd H (by simp)
     ·rw [if_neg c6] at H;exact absurd H (by simp)
    ·rw [if_neg c5] at H;exact absurd H (by simp)
   ·rw [if_neg c4] at H;have c4b0:decide (x13_1 < ji3)=false:=decide_eq_false c4;clear c4;obtain rfl:=Option.some.inj H;go_wp2;(repeat (go_quiet (fail);try go_wp2));go_ret;exact ⟨by first|rfl|(simp [errW_none,errW_some] <;> rfl)|(simp only [← hji3];first|rfl|(simp [errW_none,errW_some] <;> rfl))|(simp [*,errW_none,errW_some] <;> rfl),by repeat (first|(with_reducible first|exact HB.out|apply bal|apply bdN|apply bd1)|exact HB.out)⟩
end Go.Proofs.YtmeofdpmddjbgaaDoor.G
end
section
namespace Go.Proofs.YtmeofdpmddjbgaaDoor.G
open Go.RowKit Go.Proofs.YtmeofdpmddjbgaaDoorW.PrintWords Go.Proofs.YtmeofdpmddjbgaaDoorW.PrintLast Go.Proofs.YtmeofdpmddjbgaaDoorW.PrintMore
set_option linter.unusedVariables false
set_option linter.unusedSimpArgs false
def keyB (c:UInt8):Nat:=if c=47 then 0 else c.toNat + 1
def cmpL:List UInt8→List UInt8→Int
 | [],[]=>0
 | [],_ :: _ => -1
 | _ :: _,[]=>1
 | a :: x,b :: y=>if a=b then cmpL x y else if keyB a < keyB b then -1 else 1

def ordV:List UInt8→List UInt8→Int
 | [],y => -(y.length:Int)
 | x,[]=>(x.length:Int)
 | a :: x,b :: y=>if a=b then ordV x y else if a=47 then -1 else if b=47 then 1 else (a.toNat:Int) - (b.toNat:Int)
theorem keyB_inj {a b:UInt8} (h:keyB a=keyB b):a=b:=by
 unfold keyB at h
 split at h <;> split at h <;> rename_i h1 h2
 ·rw [h1,h2]
 ·omega
 ·omega
 ·exact UInt8.toNat_inj.1 (by omega)
theorem ordV_cmp:∀ x y:List UInt8,(ordV x y < 0 ↔ cmpL x y < 0)∧(ordV x y=0 ↔ cmpL x y=0)∧(0 < ordV x y ↔ 0 < cmpL x y)
 | [],[]=>by simp [ordV,cmpL]
 | [],b :: y=>by simp [ordV,cmpL];omega
 | a :: x,[]=>by simp [ordV,cmpL];omega
 | a :: x,b :: y=>by
  unfold ordV cmpL
  by_cases h:a=b
  ·rw [if_pos h,if_pos h];exact ordV_cmp x y
  ·rw [if_neg h,if_neg h]
   have hn:a.toNat ≠ b.toNat:=fun e=>h (UInt8.toNat_inj.1 e)
   unfold keyB
   by_cases h1:a=47
   ·have h2:¬ b=47:=fun e=>h (by rw [h1,e])
    rw [if_pos h1,if_pos h1,if_neg h2,if_pos (by omega)];decide
   ·by_cases h2:b=47
    ·rw [if_neg h1,if_neg h1,if_pos h2,if_pos h2,if_neg (by omega)];decide
    ·rw [if_neg h1,if_neg h1,if_neg h2,if_neg h2]
     by_cases h3:a.toNat < b.toNat
     ·rw [if_pos (by omega)];omega
     ·rw [if_neg (by omega)];omega
theorem cmpL_range:∀ x y:List UInt8,cmpL x y = -1∨cmpL x y=0∨cmpL x y=1
 | [],[]=>by simp [cmpL]
 | [],b :: y=>by simp [cmpL]
 | a :: x,[]=>by simp [cmpL]
 | a :: x,b :: y=>by
  unfold cmpL
  split
  ·exact cmpL_range x y
  ·split <;> simp
theorem cmpL_eq:∀ x y:List UInt8,cmpL x y=0 ↔ x=y
 | [],[]=>by simp [cmpL]
 | [],b :: y=>by simp [cmpL]
 | a :: x,[]=>by simp [cmpL]
 | a :: x,b :: y=>by
  unfold cmpL
  by_cases h:a=b
  ·rw [if_pos h,cmpL_eq x y,h];simp
  ·rw [if_neg h]
   split <;> simp [h]
theorem cmpL_neg:∀ x y:List UInt8,cmpL y x = - cmpL x y
 | [],[]=>rfl
 | [],b :: y=>rfl
 | a :: x,[]=>rfl
 | a :: x,b :: y=>by
  unfold cmpL
  by_cases h:a=b
  ·rw [if_pos h,if_pos h.symm,cmpL_neg x y]
  ·rw [if_neg h,if_neg (fun e=>h e.symm)]
   have hk:keyB a ≠ keyB b:=fun e=>h (keyB_inj e)
   by_cases h1:keyB a < keyB b
   ·rw [if_pos h1,if_neg (by omega)];rfl
   ·rw [if_neg h1,if_pos (by omega)]
theorem cmpL_trans:∀ x y z:List UInt8,cmpL x y≤0→cmpL y z≤0→cmpL x z≤0∧(cmpL x z=0→cmpL x y=0∧cmpL y z=0)
 | [],[],z,_,h=>⟨h,fun e=>⟨rfl,e⟩⟩
 | [],b :: y,[],_,h=>by simp [cmpL] at h
 | [],b :: y,c :: z,_,_=>by simp [cmpL]
 | a :: x,[],z,h,_=>by simp [cmpL] at h
 | a :: x,b :: y,[],_,h=>by simp [cmpL] at h
 | a :: x,b :: y,c :: z,h,k=>by
  unfold cmpL at h k ⊢
  by_cases h1:a=b
  ·subst h1
   rw [if_pos rfl] at h ⊢
   by_cases h2:a=c
   ·subst h2
    rw [if_pos rfl] at k ⊢
    rw [if_pos rfl]
    exact cmpL_trans x y z h k
   ·rw [if_neg h2] at k ⊢
    rw [if_neg h2]
    refine ⟨k,fun e=>?_⟩
    split at e <;> cases e
  ·rw [if_neg h1] at h ⊢
   have h3:keyB a < keyB b:=by
    by_cases h4:keyB a < keyB b
    ·exact h4
    ·rw [if_neg h4] at h;exact absurd h (by decide)
   by_cases h2:b=c
   ·subst h2
    rw [if_neg h1,if_pos h3]
    exact ⟨by decide,fun e=>by cases e⟩
   ·rw [if_neg h2] at k ⊢
    have h5:keyB b < keyB c:=by
     by_cases h4:keyB b < keyB c
     ·exact h4
     ·rw [if_neg h4] at k;exact absurd k (by decide)
    have h6:¬ a=c:=fun e=>by subst e;omega
    rw [if_neg h6,if_pos (by omega)]
    exact ⟨by decide,fun e=>by cases e⟩
theorem order_l0 (a b:ByteArray) (ha:a.size≤140737488351232) (hb:b.size≤140737488351232) (m:Nat) (hm:m=min a.size b.size):∀ (d i:Nat),m - i=d→i≤m →
  a.data.toList.take i=b.data.toList.take i →
  Ev (fun k=>tree_Order.l0 k a b m i) (ordV (a.data.toList.drop i) (b.data.toList.drop i)):=by
 intro d
 induction d with
 | zero =>
  intro i hd hi hp
  have e:i=m:=by omega
  clear hd hi hp
  subst e
  apply Ev.step
  ·intro k;rw [tree_Order.l0]
  have c1:¬ ((i:Int) < (i:Int)):=by omega
  simp only [c1,↓reduceIte]
  rw [w64_ (by omega) (by omega)]
  have hv:ordV (a.data.toList.drop i) (b.data.toList.drop i)=(a.size:Int) - (b.size:Int):=by
   by_cases h:a.size≤b.size
   ·have e2:i=a.size:=by omega
    rw [show a.data.toList.drop i=[] from List.drop_eq_nil_of_le (by rw [sz_];omega),ordV,List.length_drop,sz_]
    omega
   ·have e2:i=b.size:=by omega
    rw [show b.data.toList.drop i=[] from List.drop_eq_nil_of_le (by rw [sz_];omega)]
    have hl:(a.data.toList.drop i).length=a.size - i:=by rw [List.length_drop,sz_]
    cases hx:a.data.toList.drop i with
    | nil=>rw [hx] at hl;simp at hl;omega
    | cons c x =>
     rw [hx] at hl
     rw [ordV,hl]
     ·omega
     ·simp
  rw [hv]
  exact Ev.now _
 | succ d ih =>
  intro i hd hi hp
  have hlt:i < m:=by omega
  have hia:i < a.size:=by omega
  have hib:i < b.size:=by omega
  have hla:i < a.data.toList.length:=by rw [sz_];exact hia
  have hlb:i < b.data.toList.length:=by rw [sz_];exact hib
  apply Ev.step
  ·intro k;rw [tree_Order.l0]
  have c1:((i:Int) < (m:Int)):=by omega
  have c2:(0:Int)≤(i:Int):=by omega
  have c3:((i:Int) < (a.size:Int)):=by omega
  have c4:((i:Int) < (b.size:Int)):=by omega
  have hw:wrap64 ((i:Int) + 1)=((i + 1:Nat):Int):=by rw [w64_ (by omega) (by omega)];omega
  simp only [c1,c2,c3,c4,↓reduceIte,hw,bt_nat a i hia,bt_nat b i hib]
  rw [List.drop_eq_getElem_cons hla,List.drop_eq_getElem_cons hlb]
  obtain ⟨x,hx⟩:∃ x,a.data.toList[i]'hla=x:=⟨_,rfl⟩
  obtain ⟨y,hy⟩:∃ y,b.data.toList[i]'hlb=y:=⟨_,rfl⟩
  simp only [hx,hy]
  have bx:=x.toNat_lt
  have by_:=y.toNat_lt
  rw [w64_ (i:=(x.toNat:Int)) (by omega) (by omega),w64_ (i:=(y.toNat:Int)) (by omega) (by omega)]
  unfold ordV
  by_cases h:x=y
  ·subst h
   simp only [↓reduceIte]
   refine ih (i + 1) (by omega) (by omega) ?_
   rw [List.take_succ_eq_append_getElem hla,List.take_succ_eq_append_getElem hlb,hp,hx,hy]
  ·have h':¬ ((x.toNat:Int)=(y.toNat:Int)):=fun e=>h (UInt8.toNat_inj.1 (Int.ofNat.inj e))
   simp only [h,h',↓reduceIte]
   have e47:∀ c:UInt8,((c.toNat:Int)=47) ↔ c=47:=fun c=>⟨fun e=>UInt8.toNat_inj.1 (Int.ofNat.inj e),fun e=>by rw [e];rfl⟩
   simp only [e47]
   by_cases h1:x=47
   ·simp only [h1,↓reduceIte];exact Ev.now _
   ·by_cases h2:y=47
    ·simp only [h1,h2,↓reduceIte];exact Ev.now _
    ·simp only [h1,h2,↓reduceIte]
     rw [w64_ (by omega) (by omega)]
     exact Ev.now _
theorem order_ev (a b:ByteArray) (ha:a.size≤140737488351232) (hb:b.size≤140737488351232):Ev (fun k=>tree_Order.f k a b) (ordV a.data.toList b.data.toList):=by
 unfold tree_Order.f
 have hm:mn (a.size:Int) (b.size:Int)=((min a.size b.size:Nat):Int):=by
  unfold mn
  split <;> omega
 rw [hm]
 have h:=order_l0 a b ha hb (min a.size b.size) rfl (min a.size b.size) 0 (by omega) (by omega) rfl
 simpa using h
end Go.Proofs.YtmeofdpmddjbgaaDoor.G
end
section
namespace Go.Proofs.YtmeofdpmddjbgaaDoor.G
open Go.RowKit Go.Proofs.YtmeofdpmddjbgaaDoorW.PrintWords Go.Proofs.YtmeofdpmddjbgaaDoorW.PrintLast Go.Proofs.YtmeofdpmddjbgaaDoorW.PrintMore
attribute [local go_sem] max2_int min2_int max_two min_two max_three min_three max_four min_four   
set_option linter.unusedVariables false
set_option linter.unusedSimpArgs false
def barqueref09_Within.f (a0:ByteArray) (a1:ByteArray):Option (Bool):=if (a0.size:Int) > (a1.size:Int) then (if 0≤(wrap64 ((a1.size:Int) + 1)) then (if (wrap64 ((a1.size:Int) + 1))≤(a0.size:Int) then (if a1.size + 1≤9223372036854775807 then (some ((a0.extract 0 ((wrap64 ((a1.size:Int) + 1)):Int).toNat).toList == (a1 ++ (⟨#[47]⟩:ByteArray)).toList)) else (none)) else (none)) else (none)) else (some false)
set_option maxHeartbeats 8000000 in
set_option maxRecDepth 100000 in
theorem barqueref09_Within.calls (a0:ByteArray) (a1:ByteArray) (r:Bool) (w:World) (h:barqueref09_Within.f a0 a1=some r) :
  Calls Tryd.prog 40 #[.string a0,.string a1] w fun e w'=>e=.returned (.bool r)∧Drawn0 w w':=by
 have H:(if (a0.size:Int) > (a1.size:Int) then (if 0≤(wrap64 ((a1.size:Int) + 1)) then (if (wrap64 ((a1.size:Int) + 1))≤(a0.size:Int) then (if a1.size + 1≤9223372036854775807 then (some ((a0.extract 0 ((wrap64 ((a1.size:Int) + 1)):Int).toNat).toList == (a1 ++ (⟨#[47]⟩:ByteArray)).toList)) else (none)) else (none)) else (none)) else (some false))=some r:=h;clear h;by_cases c3:(a0.size:Int) > (a1.size:Int)
 ·rw [if_pos c3] at H;have c3b0:decide ((a1.size:Int) < (a0.size:Int))=true:=decide_eq_true c3;have c3b1:decide (a1.size < a0.size)=true:=decide_eq_true (Int.ofNat_lt.mp c3);clear c3;obtain ⟨ji4,hji4⟩:∃ j_:Int,(wrap64 ((a1.size:Int) + 1))=j_:=⟨_,rfl⟩;(replace H:(if 0≤(ji4) then (if (ji4)≤(a0.size:Int) then (if a1.size + 1≤9223372036854775807 then (some ((a0.extract 0 ((ji4):Int).toNat).toList == (a1 ++ (⟨#[47]⟩:ByteArray)).toList)) else (none)) else (none)) else (none))=some r:=by first|(rw [hji4] at H;exact H)|(simp only [hji4] at H ⊢;exact H));have hji4w:(IntKind.i64.wrap ((a1.size:Int) + 1))=ji4:=(i64_w _).trans hji4;by_cases c5:0≤(ji4)
  ·rw [if_pos c5] at H;have c5b0:=eq_true c5;have c5b1:decide (0≤(ji4))=true:=decide_eq_true c5;clear c5;by_cases c6:(ji4)≤(a0.size:Int)
   ·rw [if_pos c6] at H;have c6b0:=eq_true c6;have c6b1:decide ((ji4)≤(a0.size:Int))=true:=decide_eq_true c6;clear c6;by_cases c7:a1.size + 1≤9223372036854775807
    ·rw [if_pos c7] at H;have c7b0:=eq_true c7;have c7b1:decide (a1.size + 1≤9223372036854775807)=true:=decide_eq_true c7;(try have c7b2:(9223372036854775807 < a1.size + 1)=False:=eq_false (Nat.not_lt.2 c7));(try (have c7b3:=c7b2;simp only [ByteArray.size_append] at c7b3));obtain rfl:=Option.some.inj H;go_enter Tryd.func40,Tryd.ntmps40;go_wp2;go_ret;exact ⟨by first|rfl|(simp;done)|(simp only [← hji4] <;> (first|rfl|simp))|(simp [*];done),by repeat (first|exact Drawn0.refl _|apply Drawn0.step)⟩
    ·rw [if_neg c7] at H;exact absurd H (by simp)
   ·rw [if_neg c6] at H;exact absurd H (by simp)
  ·rw [if_neg c5] at H;exact absurd H (by simp)
 ·rw [if_neg c3] at H;have c3b0:decide ((a1.size:Int) < (a0.size:Int))=false:=decide_eq_false c3;have c3b1:decide (a1.size < a0.size)=false:=decide_eq_false (fun h=>c3 (Int.ofNat_lt.mpr h));clear c3;obtain rfl:=Option.some.inj H;go_enter Tryd.func40,Tryd.ntmps40;go_wp2;go_ret;exact ⟨by first|rfl|(simp;done)|(simp [*];done),by repeat (first|exact Drawn0.refl _|apply Drawn0.step)⟩
mutual
def barqueref09_Order.l0:Nat→ByteArray→ByteArray→Int→Option (Int)
 | 0,_,_,_=>none
 | k + 1,x0,x1,x5=>if x5 < (x0.size:Int) then (barqueref09_Order.j1 k x0 x1 x5 true) else (barqueref09_Order.j1 k x0 x1 x5 (decide (x5 < (x1.size:Int))))
def barqueref09_Order.j1:Nat→ByteArray→ByteArray→Int→Bool→Option (Int)
 | 0,_,_,_,_=>none
 | k + 1,x0,x1,x5,x17=>if x17=true then (if x5 < (x0.size:Int) then (if 0≤x5 then (if (bt x0 x5)=47 then (barqueref09_Order.j2 k x0 x1 x5 0 (-1)) else (barqueref09_Order.j2 k x0 x1 x5 (wrap64 ((wrap64 (bt x0 x5)) + 1)) (-1))) else (none)) else (barqueref09_Order.j2 k x0 x1 x5 (-1) (-1))) else (some 0)
def barqueref09_Order.j2:Nat→ByteArray→ByteArray→Int→Int→Int→Option (Int)
 | 0,_,_,_,_,_=>none
 | k + 1,x0,x1,x5,x6,x7=>if x5 < (x1.size:Int) then (if 0≤x5 then (if (bt x1 x5)=47 then (barqueref09_Order.j3 k x0 x1 x5 x6 0) else (barqueref09_Order.j3 k x0 x1 x5 x6 (wrap64 ((wrap64 (bt x1 x5)) + 1)))) else (none)) else (barqueref09_Order.j3 k x0 x1 x5 x6 x7)
def barqueref09_Order.j3:Nat→ByteArray→ByteArray→Int→Int→Int→Option (Int)
 | 0,_,_,_,_,_=>none
 | k + 1,x0,x1,x5,x6,x7=>if x6 < x7 then (some (-1)) else (if x6 > x7 then (some 1) else (barqueref09_Order.l0 k x0 x1 (wrap64 (x5 + 1))))
end
def barqueref09_Order.f (k:Nat) (a0:ByteArray) (a1:ByteArray):Option (Int):=barqueref09_Order.l0 k a0 a1 0
set_option maxHeartbeats 8000000 in
set_option maxRecDepth 100000 in
theorem barqueref09_Order.calls (k:Nat) (a0:ByteArray) (a1:ByteArray) (r:Int) (w:World) (h:barqueref09_Order.f k a0 a1=some r) :
  Calls Tryd.prog 65 #[.string a0,.string a1] w fun e w'=>e=.returned (.int .i64 r)∧Drawn0 w w':=by
 have H:(barqueref09_Order.l0 k a0 a1 0)=some r:=h;clear h;have H':=Aside0.mk H;clear H;go_enter Tryd.func65,Tryd.ntmps65;go_wp2;go_loopg [5] k (fun kq v5 w'=>∃ (x5_1:Int),v5=.int .i64 x5_1∧Aside0 (barqueref09_Order.l0 kq a0 a1 x5_1=some r)∧Aside0 (kq≤k)∧Drawn0 w w')
 case atStart=>exact ⟨(0),(by first|rfl|(simp;done)|(simp [*];done)),H',⟨Nat.le_refl _⟩,by repeat (first|exact Drawn0.refl _|apply Drawn0.step)⟩
 case round =>
  clear H';(try clear p2);obtain ⟨x5_1,rfl,HA,HK1,⟨m1,rfl⟩⟩:=hrel
  cases gk with
  | zero=>exact absurd HA.out (by simp [barqueref09_Order.l0])
  | succ k1 =>
   have H:=HA.out;clear HA;simp only [barqueref09_Order.l0] at H;have HC3:=Aside0.mk H;clear H;go_upto_region 2 with (fail);go_cut [17] (fun v17 wc=>∃ (kq:Nat) (x17_2:Bool),v17=.bool x17_2∧Aside0 (barqueref09_Order.j1 kq a0 a1 x5_1 x17_2=some r)∧Aside0 (kq≤k1)∧Drawn0 w wc)
   case first =>
    have H:=HC3.out;clear HC3;by_cases c4:x5_1 < (a0.size:Int)
    ·rw [if_pos c4] at H;have c4b0:decide (x5_1 < (a0.size:Int))=true:=decide_eq_true c4;clear c4;(first|rw [c4b0]|(simp only [i64_w,i32_w];rw [c4b0])|skip);have H':=Aside0.mk H;clear H;go_wp2;go_meet
     case rel=>exact ⟨_,(true),(by first|rfl|(simp;done)|(simp [*];done)),H',⟨by have:=HK1.out;first|omega|exact Nat.le_refl _⟩,by repeat (first|exact Drawn0.refl _|apply Drawn0.step)⟩
    ·rw [if_neg c4] at H;have c4b0:decide (x5_1 < (a0.size:Int))=false:=decide_eq_false c4;clear c4;(first|rw [c4b0]|(simp only [i64_w,i32_w];rw [c4b0])|skip);have H':=Aside0.mk H;clear H;go_wp2;go_meet
     case rel=>exact ⟨_,(decide (x5_1 < (a1.size:Int))),(by first|rfl|(simp;done)|(simp [*];done)),H',⟨by have:=HK1.out;first|omega|exact Nat.le_refl _⟩,by repeat (first|exact Drawn0.refl _|apply Drawn0.step)⟩
   case rest =>
    clear HC3;(try clear p2);(try clear c4);(try clear c4b0);(try clear p2);obtain ⟨kq,x17_2,rfl,HA,HJ2,⟨mc2,rfl⟩⟩:=hcut
    cases kq with
    | zero=>exact absurd HA.out (by simp [barqueref09_Order.j1])
    | succ kj2 =>
     have H:=HA.out;clear HA;simp only [barqueref09_Order.j1] at H;by_cases c5:x17_2=true
     ·subst c5;(have H1:(if x5_1 < (a0.size:Int) then (if 0≤x5_1 then (if (bt a0 x5_1)=47 then (barqueref09_Order.j2 kj2 a0 a1 x5_1 0 (-1)) else (barqueref09_Order.j2 kj2 a0 a1 x5_1 (wrap64 ((wrap64 (bt a0 x5_1)) + 1)) (-1))) else (none)) else (barqueref09_Order.j2 kj2 a0 a1 x5_1 (-1) (-1)))=some r:=by rw [if_pos rfl] at H;exact H);clear H;have H:=H1;clear H1;have HC6:=Aside0.mk H;clear H;go_upto_if 23 with (fail);go_cut [6] (fun v6 wc=>∃ (kq:Nat) (x6_5:Int),v6=.int .i64 x6_5∧Aside0 (barqueref09_Order.j2 kq a0 a1 x5_1 x6_5 (-1)=some r)∧Aside0 (kq≤kj2)∧Drawn0 w wc)
      case first =>
       have H:=HC6.out;clear HC6;by_cases c7:x5_1 < (a0.size:Int)
       ·rw [if_pos c7] at H;have c7b0:decide (x5_1 < (a0.size:Int))=true:=decide_eq_true c7;clear c7;(first|rw [c7b0]|(simp only [i64_w,i32_w];rw [c7b0])|skip);by_cases c8:0≤x5_1
        ·rw [if_pos c8] at H;have c8b0:decide (0≤x5_1)=true:=decide_eq_true c8;clear c8;by_cases c11:(bt a0 x5_1)=47
         ·rw [if_pos c11] at H;have c11b0:((bt a0 x5_1) == 47)=true:=beq_iff_eq.mpr c11;have c11b1:((bt a0 x5_1) != 47)=false:=bne_eq_false_iff_eq.mpr c11;clear c11;have H':=Aside0.mk H;clear H;have p9:0≤(x5_1:Int):=of_decide_eq_true (by first|(with_reducible assumption)|assumption);have q9:x5_1 < (a0.size:Int):=of_decide_eq_true (by first|(with_reducible assumption)|assumption);have hx9:=bt_at a0 x5_1;replace p9:=eq_true p9;replace q9:=eq_true q9;have p10:0≤(x5_1:Int):=of_decide_eq_true (by first|(with_reducible assumption)|assumption);have q10:x5_1 < (a0.size:Int):=of_decide_eq_true (by first|(with_reducible assumption)|assumption);have hx10:=bt_at a0 x5_1;replace p10:=eq_true p10;replace q10:=eq_true q10;go_wp2;go_meet
          case rel=>exact ⟨_,(0),(by first|rfl|(simp;done)|(simp [*];done)),H',⟨by have:=HK1.out;have:=HJ2.out;first|omega|exact Nat.le_refl _⟩,by repeat (first|exact Drawn0.refl _|apply Drawn0.step)⟩
         ·rw [if_neg c11] at H;have c11b0:((bt a0 x5_1) == 47)=false:=beq_eq_false_iff_ne.mpr c11;have c11b1:((bt a0 x5_1) != 47)=true:=bne_iff_ne.mpr c11;have H':=Aside0.mk H;clear H;have p9:0≤(x5_1:Int):=of_decide_eq_true (by first|(with_reducible assumption)|assumption);have q9:x5_1 < (a0.size:Int):=of_decide_eq_true (by first|(with_reducible assumption)|assumption);have hx9:=bt_at a0 x5_1;replace p9:=eq_true p9;replace q9:=eq_true q9;have p10:0≤(x5_1:Int):=of_decide_eq_true (by first|(with_reducible assumption)|assumption);have q10:x5_1 < (a0.size:Int):=of_decide_eq_true (by first|(with_reducible assumption)|assumption);have hx10:=bt_at a0 x5_1;replace p10:=eq_true p10;replace q10:=eq_true q10;go_wp2;go_meet
          case rel=>exact ⟨_,(wrap64 ((wrap64 (bt a0 x5_1)) + 1)),(by first|rfl|(simp;done)|(simp [*];done)),H',⟨by have:=HK1.out;have:=HJ2.out;first|omega|exact Nat.le_refl _⟩,by repeat (first|exact Drawn0.refl _|apply Drawn0.step)⟩
        ·rw [if_neg c8] at H;exact absurd H (by simp)
       ·rw [if_neg c7] at H;have c7b0:decide (x5_1 < (a0.size:Int))=false:=decide_eq_false c7;clear c7;(first|rw [c7b0]|(simp only [i64_w,i32_w];rw [c7b0])|skip);have H':=Aside0.mk H;clear H;go_wp2;go_meet
        case rel=>exact ⟨_,((-1)),(by first|rfl|(simp;done)|(simp [*];done)),H',⟨by have:=HK1.out;have:=HJ2.out;first|omega|exact Nat.le_refl _⟩,by repeat (first|exact Drawn0.refl _|apply Drawn0.step)⟩
      case rest =>
       clear HC6;(try clear c1);(try clear p1);(try clear q1);(try clear hx1);(try clear c2);(try clear p2);(try clear c4);(try clear c4b0);(try clear c5);(try clear c6);(try clear p6);(try clear c7);(try clear c7b0);(try clear c8);(try clear c8b0);(try clear p9);(try clear q9);(try clear hx9);(try clear p10);(try clear q10);(try clear hx10);(try clear c11);(try clear c11b0);(try clear c11b1);(try clear p10);(try clear p2);(try clear p9);(try clear q10);(try clear q9);obtain ⟨kq,x6_5,rfl,HA,HJ5,⟨mc5,rfl⟩⟩:=hcut
       cases kq with
       | zero=>exact absurd HA.out (by simp [barqueref09_Order.j2])
       | succ kj5 =>
        have H:=HA.out;clear HA;simp only [barqueref09_Order.j2] at H;have HC12:=Aside0.mk H;clear H;go_upto_if 36 with (fail);go_cut [7] (fun v7 wc=>∃ (kq:Nat) (x7_11:Int),v7=.int .i64 x7_11∧Aside0 (barqueref09_Order.j3 kq a0 a1 x5_1 x6_5 x7_11=some r)∧Aside0 (kq≤kj5)∧Drawn0 w wc)
        case first =>
         have H:=HC12.out;clear HC12;by_cases c13:x5_1 < (a1.size:Int)
         ·rw [if_pos c13] at H;have c13b0:decide (x5_1 < (a1.size:Int))=true:=decide_eq_true c13;clear c13;(first|rw [c13b0]|(simp only [i64_w,i32_w];rw [c13b0])|skip);by_cases c14:0≤x5_1
          ·rw [if_pos c14] at H;have c14b0:decide (0≤x5_1)=true:=decide_eq_true c14;clear c14;by_cases c17:(bt a1 x5_1)=47
           ·rw [if_pos c17] at H;have c17b0:((bt a1 x5_1) == 47)=true:=beq_iff_eq.mpr c17;have c17b1:((bt a1 x5_1) != 47)=false:=bne_eq_false_iff_eq.mpr c17;clear c17;have H':=Aside0.mk H;clear H;have p15:0≤(x5_1:Int):=of_decide_eq_true (by first|(with_reducible assumption)|assumption);have q15:x5_1 < (a1.size:Int):=of_decide_eq_true (by first|(with_reducible assumption)|assumption);have hx15:=bt_at a1 x5_1;replace p15:=eq_true p15;replace q15:=eq_true q15;have p16:0≤(x5_1:Int):=of_decide_eq_true (by first|(with_reducible assumption)|assumption);have q16:x5_1 < (a1.size:Int):=of_decide_eq_true (by first|(with_reducible assumption)|assumption);have hx16:=bt_at a1 x5_1;replace p16:=eq_true p16;replace q16:=eq_true q16;go_wp2;go_meet
            case rel=>exact ⟨_,(0),(by first|rfl|(simp;done)|(simp [*];done)),H',⟨by have:=HK1.out;have:=HJ2.out;have:=HJ5.out;first|omega|exact Nat.le_refl _⟩,by repeat (first|exact Drawn0.refl _|apply Drawn0.step)⟩
           ·rw [if_neg c17] at H;have c17b0:((bt a1 x5_1) == 47)=false:=beq_eq_false_iff_ne.mpr c17;have c17b1:((bt a1 x5_1) != 47)=true:=bne_iff_ne.mpr c17;have H':=Aside0.mk H;clear H;have p15:0≤(x5_1:Int):=of_decide_eq_true (by first|(with_reducible assumption)|assumption);have q15:x5_1 < (a1.size:Int):=of_decide_eq_true (by first|(with_reducible assumption)|assumption);have hx15:=bt_at a1 x5_1;replace p15:=eq_true p15;replace q15:=eq_true q15;have p16:0≤(x5_1:Int):=of_decide_eq_true (by first|(with_reducible assumption)|assumption);have q16:x5_1 < (a1.size:Int):=of_decide_eq_true (by first|(with_reducible assumption)|assumption);have hx16:=bt_at a1 x5_1;replace p16:=eq_true p16;replace q16:=eq_true q16;go_wp2;go_meet
            case rel=>exact ⟨_,(wrap64 ((wrap64 (bt a1 x5_1)) + 1)),(by first|rfl|(simp;done)|(simp [*];done)),H',⟨by have:=HK1.out;have:=HJ2.out;have:=HJ5.out;first|omega|exact Nat.le_refl _⟩,by repeat (first|exact Drawn0.refl _|apply Drawn0.step)⟩
          ·rw [if_neg c14] at H;exact absurd H (by simp)
         ·rw [if_neg c13] at H;have c13b0:decide (x5_1 < (a1.size:Int))=false:=decide_eq_false c13;clear c13;(first|rw [c13b0]|(simp only [i64_w,i32_w];rw [c13b0])|skip);have H':=Aside0.mk H;clear H;go_wp2;go_meet
          case rel=>exact ⟨_,((-1)),(by first|rfl|(simp;done)|(simp [*];done)),H',⟨by have:=HK1.out;have:=HJ2.out;have:=HJ5.out;first|omega|exact Nat.le_refl _⟩,by repeat (first|exact Drawn0.refl _|apply Drawn0.step)⟩
        case rest =>
         clear HC12;(try clear c1);(try clear p1);(try clear q1);(try clear hx1);(try clear c2);(try clear p2);(try clear c4);(try clear c4b0);(try clear c5);(try clear c6);(try clear p6);(try clear c7);(try clear c7b0);(try clear c8);(try clear c8b0);(try clear p9);(try clear q9);(try clear hx9);(try clear p10);(try clear q10);(try clear hx10);(try clear c11);(try clear c11b0);(try clear c11b1);(try clear c13);(try clear c13b0);(try clear c14);(try clear c14b0);(try clear p15);(try clear q15);(try clear hx15);(try clear p16);(try clear q16);(try clear hx16);(try clear c17);(try clear c17b0);(try clear c17b1);(try clear p1);(try clear p10);(try clear p15);(try clear p16);(try clear p2);(try clear p6);(try clear p9);(try clear q1);(try clear q10);(try clear q15);(try clear q16);(try clear q9);obtain ⟨kq,x7_11,rfl,HA,HJ11,⟨mc11,rfl⟩⟩:=hcut
         cases kq with
         | zero=>exact absurd HA.out (by simp [barqueref09_Order.j3])
         | succ kj11 =>
          have H:=HA.out;clear HA;simp only [barqueref09_Order.j3] at H;by_cases c18:x6_5 < x7_11
          ·rw [if_pos c18] at H;have c18b0:decide (x6_5 < x7_11)=true:=decide_eq_true c18;clear c18;obtain rfl:=Option.some.inj H;go_wp2;go_ret;exact ⟨by first|rfl|(simp;done)|(simp [*];done),by repeat (first|exact Drawn0.refl _|apply Drawn0.step)⟩
          ·rw [if_neg c18] at H;have c18b0:decide (x6_5 < x7_11)=false:=decide_eq_false c18;clear c18;by_cases c19:x6_5 > x7_11
           ·rw [if_pos c19] at H;have c19b0:decide (x7_11 < x6_5)=true:=decide_eq_true c19;clear c19;obtain rfl:=Option.some.inj H;go_wp2;go_ret;exact ⟨by first|rfl|(simp;done)|(simp [*];done),by repeat (first|exact Drawn0.refl _|apply Drawn0.step)⟩
           ·rw [if_neg c19] at H;have c19b0:decide (x7_11 < x6_5)=false:=decide_eq_false c19;clear c19;have H':=Aside0.mk H;clear H;go_wp2;go_roundg kj11
            case measure=>have:=HK1.out;have:=HJ2.out;have:=HJ5.out;have:=HJ11.out;omega
            case rel=>exact ⟨(wrap64 (x5_1 + 1)),(by first|rfl|(simp;done)|(simp [*];done)),H',⟨by have:=HK1.out;have:=HJ2.out;have:=HJ5.out;have:=HJ11.out;omega⟩,by repeat (first|exact Drawn0.refl _|apply Drawn0.step)⟩
     ·replace c5:=Bool.eq_false_iff.mpr c5;subst c5;(have H1:(some 0)=some r:=by rw [if_neg (show ¬ (false=true) by decide)] at H;exact H);clear H;have H:=H1;clear H1;obtain rfl:=Option.some.inj H;go_wp2;go_ret;exact ⟨by first|rfl|(simp;done)|(simp [*];done),by repeat (first|exact Drawn0.refl _|apply Drawn0.step)⟩
def tree_Within.f (a0:ByteArray) (a1:ByteArray):Option (Bool):=if (a0.size:Int) > (a1.size:Int) then (if 0≤(a1.size:Int) then (if (a1.size:Int)≤(a0.size:Int) then (if (a0.extract 0 a1.size).toList=a1.toList then (if (a1.size:Int) < (a0.size:Int) then (some ((bt a0 (a1.size:Int)) == 47)) else (none)) else (some false)) else (none)) else (none)) else (some false)
set_option maxHeartbeats 8000000 in
set_option maxRecDepth 100000 in
theorem tree_Within.calls (a0:ByteArray) (a1:ByteArray) (r:Bool) (w:World) (h:tree_Within.f a0 a1=some r) :
  Calls Tryd.prog 39 #[.string a0,.string a1] w fun e w'=>e=.returned (.bool r)∧Drawn0 w w':=by
 have H:(if (a0.size:Int) > (a1.size:Int) then (if 0≤(a1.size:Int) then (if (a1.size:Int)≤(a0.size:Int) then (if (a0.extract 0 a1.size).toList=a1.toList then (if (a1.size:Int) < (a0.size:Int) then (some ((bt a0 (a1.size:Int)) == 47)) else (none)) else (some false)) else (none)) else (none)) else (some false))=some r:=h;clear h;by_cases c3:(a0.size:Int) > (a1.size:Int)
 ·rw [if_pos c3] at H;have c3b0:decide ((a1.size:Int) < (a0.size:Int))=true:=decide_eq_true c3;have c3b1:decide (a1.size < a0.size)=true:=decide_eq_true (Int.ofNat_lt.mp c3);clear c3;by_cases c4:0≤(a1.size:Int)
  ·rw [if_pos c4] at H;have c4b0:=eq_true c4;have c4b1:decide (0≤(a1.size:Int))=true:=decide_eq_true c4;clear c4;by_cases c5:(a1.size:Int)≤(a0.size:Int)
   ·rw [if_pos c5] at H;have c5b0:=eq_true c5;have c5b1:decide ((a1.size:Int)≤(a0.size:Int))=true:=decide_eq_true c5;clear c5;by_cases c6:(a0.extract 0 a1.size).toList=a1.toList
    ·rw [if_pos c6] at H;have c6b0:((a0.extract 0 a1.size).toList == a1.toList)=true:=beq_iff_eq.mpr c6;have c6b1:((a0.extract 0 a1.size).toList != a1.toList)=false:=bne_eq_false_iff_eq.mpr c6;clear c6;by_cases c7:(a1.size:Int) < (a0.size:Int)
     ·rw [if_pos c7] at H;have c7b0:decide ((a1.size:Int) < (a0.size:Int))=true:=decide_eq_true c7;have c7b1:decide (a1.size < a0.size)=true:=decide_eq_true (Int.ofNat_lt.mp c7);clear c7;obtain rfl:=Option.some.inj H;have p8:0≤((a1.size:Int):Int):=of_decide_eq_true (by first|(with_reducible assumption)|assumption);have q8:(a1.size:Int) < (a0.size:Int):=of_decide_eq_true (by first|(with_reducible assumption)|assumption);have hx8:=bt_at a0 (a1.size:Int);(have hx8n:∀ h:a1.size < a0.size,((a0[a1.size]'h).toNat:Int)=bt a0 (a1.size:Int):=fun h=>by simp [bt,h]);replace p8:=eq_true p8;replace q8:=eq_true q8;go_enter Tryd.func39,Tryd.ntmps39;go_wp2;go_ret;exact ⟨by first|rfl|(simp;done)|(simp [*];done),by repeat (first|exact Drawn0.refl _|apply Drawn0.step)⟩
     ·rw [if_neg c7] at H;exact absurd H (by simp)
    ·rw [if_neg c6] at H;have c6b0:((a0.extract 0 a1.size).toList == a1.toList)=false:=beq_eq_false_iff_ne.mpr c6;have c6b1:((a0.extract 0 a1.size).toList != a1.toList)=true:=bne_iff_ne.mpr c6;obtain rfl:=Option.some.inj H;go_enter Tryd.func39,Tryd.ntmps39;go_wp2;go_ret;exact ⟨by first|rfl|(simp;done)|(simp [*];done),by repeat (first|exact Drawn0.refl _|apply Drawn0.step)⟩
   ·rw [if_neg c5] at H;exact absurd H (by simp)
  ·rw [if_neg c4] at H;exact absurd H (by simp)
 ·rw [if_neg c3] at H;have c3b0:decide ((a1.size:Int) < (a0.size:Int))=false:=decide_eq_false c3;have c3b1:decide (a1.size < a0.size)=false:=decide_eq_false (fun h=>c3 (Int.ofNat_lt.mpr h));clear c3;obtain rfl:=Option.some.inj H;go_enter Tryd.func39,Tryd.ntmps39;go_wp2;go_ret;exact ⟨by first|rfl|(simp;done)|(simp [*];done),by repeat (first|exact Drawn0.refl _|apply Drawn0.step)⟩
end Go.Proofs.YtmeofdpmddjbgaaDoor.G
end
section
namespace Go.Proofs.YtmeofdpmddjbgaaDoor.G
open Go.RowKit Go.Proofs.YtmeofdpmddjbgaaDoorW.PrintWords Go.Proofs.YtmeofdpmddjbgaaDoorW.PrintLast Go.Proofs.YtmeofdpmddjbgaaDoorW.PrintMore
set_option linter.unusedVariables false
set_option linter.unusedSimpArgs false
def keyI (s:ByteArray) (i:Nat):Int:=if h:i < s.size then (keyB (s.data.toList[i]'(by rw [sz_];exact h)):Int) else -1
theorem keyI_in (s:ByteArray) (i:Nat) (h:i < s.size):keyI s i=(keyB (s.data.toList[i]'(by rw [sz_];exact h)):Int):=by unfold keyI;rw [dif_pos h]
theorem keyI_out (s:ByteArray) (i:Nat) (h:¬ i < s.size):keyI s i = -1:=by unfold keyI;rw [dif_neg h]
theorem e47_ (c:UInt8):((c.toNat:Int)=47) ↔ c=47:=⟨fun e=>UInt8.toNat_inj.1 (Int.ofNat.inj e),fun e=>by rw [e];rfl⟩
theorem keyB_num (c:UInt8) (h:¬ c=47):wrap64 (wrap64 (c.toNat:Int) + 1)=(keyB c:Int):=by
 have:=c.toNat_lt
 rw [w64_ (i:=(c.toNat:Int)) (by omega) (by omega),w64_ (by omega) (by omega)]
 unfold keyB
 rw [if_neg h]
 omega
theorem reforder_j2 (a b:ByteArray) (i:Nat) (x r:Int) (h:Ev (fun k=>barqueref09_Order.j3 k a b i x (keyI b i)) r):Ev (fun k=>barqueref09_Order.j2 k a b i x (-1)) r:=by
 apply Ev.step
 ·intro k;rw [barqueref09_Order.j2]
 by_cases hb:i < b.size
 ·have c1:((i:Int) < (b.size:Int)):=by omega
  have c2:(0:Int)≤(i:Int):=by omega
  rw [keyI_in b i hb] at h
  simp only [c1,c2,↓reduceIte,bt_nat b i hb,e47_]
  by_cases h47:b.data.toList[i]'(by rw [sz_];exact hb)=47
  ·simp only [h47,↓reduceIte]
   rw [h47] at h
   exact h
  ·simp only [h47,↓reduceIte]
   rw [keyB_num _ h47]
   exact h
 ·have c1:¬ ((i:Int) < (b.size:Int)):=by omega
  rw [keyI_out b i hb] at h
  simp only [c1,↓reduceIte]
  exact h
theorem reforder_j1 (a b:ByteArray) (i:Nat) (r:Int) (h:Ev (fun k=>barqueref09_Order.j3 k a b i (keyI a i) (keyI b i)) r):Ev (fun k=>barqueref09_Order.j1 k a b i true) r:=by
 apply Ev.step
 ·intro k;rw [barqueref09_Order.j1]
 simp only [↓reduceIte]
 by_cases ha:i < a.size
 ·have c1:((i:Int) < (a.size:Int)):=by omega
  have c2:(0:Int)≤(i:Int):=by omega
  rw [keyI_in a i ha] at h
  simp only [c1,c2,↓reduceIte,bt_nat a i ha,e47_]
  by_cases h47:a.data.toList[i]'(by rw [sz_];exact ha)=47
  ·simp only [h47,↓reduceIte]
   rw [h47] at h
   exact reforder_j2 a b i _ r h
  ·simp only [h47,↓reduceIte]
   rw [keyB_num _ h47]
   exact reforder_j2 a b i _ r h
 ·have c1:¬ ((i:Int) < (a.size:Int)):=by omega
  rw [keyI_out a i ha] at h
  simp only [c1,↓reduceIte]
  exact reforder_j2 a b i _ r h
theorem reforder_l0 (a b:ByteArray) (ha:a.size≤140737488351232) (hb:b.size≤140737488351232):∀ (d i:Nat),max a.size b.size - i=d →
  i≤140737488351232→Ev (fun k=>barqueref09_Order.l0 k a b i) (cmpL (a.data.toList.drop i) (b.data.toList.drop i)):=by
 intro d
 induction d with
 | zero =>
  intro i hd hi
  apply Ev.step
  ·intro k;rw [barqueref09_Order.l0]
  have c1:¬ ((i:Int) < (a.size:Int)):=by omega
  have c2:decide ((i:Int) < (b.size:Int))=false:=by simp;omega
  simp only [c1,c2,↓reduceIte]
  rw [show a.data.toList.drop i=[] from List.drop_eq_nil_of_le (by rw [sz_];omega),show b.data.toList.drop i=[] from List.drop_eq_nil_of_le (by rw [sz_];omega)]
  apply Ev.step
  ·intro k;rw [barqueref09_Order.j1]
  simp only [Bool.false_eq_true,↓reduceIte]
  exact Ev.now _
 | succ d ih =>
  intro i hd hi
  have main:Ev (fun k=>barqueref09_Order.j1 k a b i true) (cmpL (a.data.toList.drop i) (b.data.toList.drop i)):=by
   apply reforder_j1
   apply Ev.step
   ·intro k;rw [barqueref09_Order.j3]
   have hw:wrap64 ((i:Int) + 1)=((i + 1:Nat):Int):=by rw [w64_ (by omega) (by omega)];omega
   rw [hw]
   by_cases h1:i < a.size <;> by_cases h2:i < b.size
   ·have hla:i < a.data.toList.length:=by rw [sz_];exact h1
    have hlb:i < b.data.toList.length:=by rw [sz_];exact h2
    rw [keyI_in a i h1,keyI_in b i h2]
    have hih:=ih (i + 1) (by omega) (by omega)
    rw [List.drop_eq_getElem_cons hla,List.drop_eq_getElem_cons hlb]
    obtain ⟨x,hx⟩:∃ x,a.data.toList[i]'hla=x:=⟨_,rfl⟩
    obtain ⟨y,hy⟩:∃ y,b.data.toList[i]'hlb=y:=⟨_,rfl⟩
    rw [hx,hy]
    unfold cmpL
    by_cases he:x=y
    ·subst he
     have c1:¬ ((keyB x:Int) < (keyB x:Int)):=by omega
     have c2:¬ ((keyB x:Int) > (keyB x:Int)):=by omega
     simp only [c1,c2,↓reduceIte]
     exact hih
    ·have hk:keyB x ≠ keyB y:=fun e=>he (keyB_inj e)
     by_cases h3:keyB x < keyB y
     ·have c1:((keyB x:Int) < (keyB y:Int)):=by omega
      simp only [c1,he,h3,↓reduceIte]
      exact Ev.now _
     ·have c1:¬ ((keyB x:Int) < (keyB y:Int)):=by omega
      have c2:((keyB x:Int) > (keyB y:Int)):=by omega
      simp only [c1,c2,he,h3,↓reduceIte]
      exact Ev.now _
   ·have hla:i < a.data.toList.length:=by rw [sz_];exact h1
    rw [keyI_in a i h1,keyI_out b i h2,List.drop_eq_getElem_cons hla,show b.data.toList.drop i=[] from List.drop_eq_nil_of_le (by rw [sz_];omega),cmpL]
    have c1:¬ ((keyB (a.data.toList[i]'hla):Int) < -1):=by omega
    have c2:((keyB (a.data.toList[i]'hla):Int) > -1):=by omega
    simp only [c1,c2,↓reduceIte]
    exact Ev.now _
   ·have hlb:i < b.data.toList.length:=by rw [sz_];exact h2
    rw [keyI_out a i h1,keyI_in b i h2,List.drop_eq_getElem_cons hlb,show a.data.toList.drop i=[] from List.drop_eq_nil_of_le (by rw [sz_];omega),cmpL]
    have c1:((-1:Int) < (keyB (b.data.toList[i]'hlb):Int)):=by omega
    simp only [c1,↓reduceIte]
    exact Ev.now _
   ·omega
  apply Ev.step
  ·intro k;rw [barqueref09_Order.l0]
  by_cases h1:i < a.size
  ·have c1:((i:Int) < (a.size:Int)):=by omega
   simp only [c1,↓reduceIte]
   exact main
  ·have c1:¬ ((i:Int) < (a.size:Int)):=by omega
   have c2:decide ((i:Int) < (b.size:Int))=true:=by simp;omega
   simp only [c1,c2,↓reduceIte]
   exact main
theorem reforder_ev (a b:ByteArray) (ha:a.size≤140737488351232) (hb:b.size≤140737488351232):Ev (fun k=>barqueref09_Order.f k a b) (cmpL a.data.toList b.data.toList):=by
 unfold barqueref09_Order.f
 have h:=reforder_l0 a b ha hb _ 0 rfl (by omega)
 simpa using h
def withinB (s i:List UInt8):Bool:=decide (i.length < s.length) && (s.take (i.length + 1) == i ++ [47])
theorem within_f (a b:ByteArray):tree_Within.f a b=some (withinB a.data.toList b.data.toList):=by
 unfold tree_Within.f withinB
 rw [sz_,sz_]
 by_cases h:b.size < a.size
 ·have c1:(a.size:Int) > (b.size:Int):=by omega
  have c2:(0:Int)≤(b.size:Int):=by omega
  have c3:(b.size:Int)≤(a.size:Int):=by omega
  have c4:(b.size:Int) < (a.size:Int):=by omega
  have hl:b.size < a.data.toList.length:=by rw [sz_];exact h
  simp only [c1,c2,c3,c4,↓reduceIte,bt_nat a b.size h,decide_eq_true h,Bool.true_and]
  rw [toList_data_,toList_data_,Go.Lib.extract_data,List.drop_zero,Nat.sub_zero,List.take_succ_eq_append_getElem hl]
  have hlen:(a.data.toList.take b.size).length=b.data.toList.length:=by rw [List.length_take,sz_,sz_];omega
  by_cases he:a.data.toList.take b.size=b.data.toList
  ·simp only [he,↓reduceIte]
   congr 1
   rw [Bool.eq_iff_iff]
   simp only [beq_iff_eq,e47_,List.append_cancel_left_eq,List.cons.injEq,and_true]
  ·simp only [he,↓reduceIte]
   congr 1
   symm
   rw [beq_eq_false_iff_ne]
   intro e
   exact he (List.append_inj e hlen).1
 ·have c1:¬ ((a.size:Int) > (b.size:Int)):=by omega
  simp only [c1,↓reduceIte,decide_eq_false h,Bool.false_and]
theorem refwithin_f (a b:ByteArray) (hb:b.size≤140737488351232):barqueref09_Within.f a b=some (withinB a.data.toList b.data.toList):=by
 unfold barqueref09_Within.f withinB
 rw [sz_,sz_]
 by_cases h:b.size < a.size
 ·have c1:(a.size:Int) > (b.size:Int):=by omega
  have hw:wrap64 ((b.size:Int) + 1)=((b.size + 1:Nat):Int):=by rw [w64_ (by omega) (by omega)];omega
  rw [hw]
  have c2:(0:Int)≤((b.size + 1:Nat):Int):=by omega
  have c3:((b.size + 1:Nat):Int)≤(a.size:Int):=by omega
  have c4:b.size + 1≤9223372036854775807:=by omega
  simp only [c1,c2,c3,c4,↓reduceIte,decide_eq_true h,Bool.true_and,Int.toNat_natCast]
  rw [toList_data_,toList_data_,Go.Lib.extract_data,List.drop_zero,Nat.sub_zero]
  congr 2
 ·have c1:¬ ((a.size:Int) > (b.size:Int)):=by omega
  simp only [c1,↓reduceIte,decide_eq_false h,Bool.false_and]
end Go.Proofs.YtmeofdpmddjbgaaDoor.G
end
