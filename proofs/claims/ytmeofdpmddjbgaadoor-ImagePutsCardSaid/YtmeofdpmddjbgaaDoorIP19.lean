/- Texts of this session's claim of ImagePuts, less what its theorem does not reach. No condition. -/
import Derived.Test.YtmeofdpmddjbgaaDoorIP11
import Derived.Test.YtmeofdpmddjbgaaDoorIP12
import Derived.Test.YtmeofdpmddjbgaaDoorIP13
import Derived.Test.YtmeofdpmddjbgaaDoorIP15
import Derived.Test.YtmeofdpmddjbgaaDoorIP16
import Derived.Test.YtmeofdpmddjbgaaDoorIP17
import Derived.Test.YtmeofdpmddjbgaaDoorIP18
section
namespace Go.Proofs.YtmeofdpmddjbgaaDoor.G
open Go.RowKit Go.Proofs.YtmeofdpmddjbgaaDoorW.PrintWords Go.Proofs.YtmeofdpmddjbgaaDoorW.PrintLast Go.Proofs.YtmeofdpmddjbgaaDoorW.PrintMore
set_option linter.unusedVariables false
set_option linter.unusedSimpArgs false
theorem swp_ev (P U M V Q:List S33) (hUV:U.length=V.length) (hl:P.length + U.length + M.length + V.length + Q.length≤4294967295) (a b n:Int) (ha:a=(P.length:Int)) (hb:b=((P.length + U.length + M.length:Nat):Int)) (hn:n=(U.length:Int)) :
  Ev (fun k=>api_File_92.f k (P ++ U ++ M ++ V ++ Q) a b n) (P ++ V ++ M ++ U ++ Q):=by
 subst ha hb hn
 unfold api_File_92.f
 have:=swp_l0 M Q (P.length:Int) ((P.length + U.length + M.length:Nat):Int) (U.length:Int) U V P [] 0 hUV (by omega) (by rw [List.length_nil];omega) (by omega) (by rw [List.length_nil];omega) (by omega) (by omega)
 rw [List.append_nil,List.nil_append] at this
 exact this
theorem rot_l0:∀ (N:Nat) (X U V Y:List S33),U.length + V.length≤N→0 < U.length→0 < V.length→X.length + U.length + V.length + Y.length≤4294967295 →
  Ev (fun k=>api_File_88.l0 k (X ++ U ++ V ++ Y) ((X.length + U.length:Nat):Int) (U.length:Int) (V.length:Int)) (X ++ V ++ U ++ Y):=by
 intro N
 induction N with
 | zero=>intro X U V Y hN hU hV hl;omega
 | succ N ih =>
  intro X U V Y hN hU hV hl
  apply Ev.step
  ·intro k;rw [api_File_88.l0]
  have hm:(((X.length + U.length:Nat):Int) - (U.length:Int))=(X.length:Int):=by omega
  have hwm:wrap64 (((X.length + U.length:Nat):Int) - (U.length:Int))=(X.length:Int):=by rw [hm];exact w64n_ _ (by omega) (by omega)
  by_cases c1:(U.length:Int)=(V.length:Int)
  ·simp only [c1,↓reduceIte]
   rw [c1] at hwm
   simp only [hwm]
   have:=swp_ev X U [] V Y (Int.ofNat.inj c1) (by rw [List.length_nil];omega) (X.length:Int) ((X.length + U.length:Nat):Int) (V.length:Int) rfl (by rw [List.length_nil,Nat.add_zero]) c1.symm
   rw [List.append_nil,List.append_nil] at this
   exact Ev.bind this (Ev.now _)
  ·by_cases c2:(U.length:Int) > (V.length:Int)
   ·simp only [c1,c2,↓reduceIte,hwm]
    have hle:V.length≤U.length:=by clear hwm;omega
    obtain ⟨U1,U2,rfl,h1⟩:∃ U1 U2,U=U1 ++ U2∧U1.length=V.length:=⟨U.take V.length,U.drop V.length,(List.take_append_drop _ _).symm,by rw [List.length_take];exact Nat.min_eq_left hle⟩
    clear hle hwm hm
    rw [List.length_append] at hN hU hl c1 c2
    have s:=swp_ev X U1 U2 V Y h1 (by omega) (X.length:Int) ((X.length + (U1 ++ U2).length:Nat):Int) (V.length:Int) rfl (by rw [List.length_append];omega) (by omega)
    rw [show X ++ U1 ++ U2 ++ V ++ Y=X ++ (U1 ++ U2) ++ V ++ Y by simp] at s
    refine Ev.bind s ?_
    have g:=ih (X ++ V) U2 U1 Y (by omega) (by omega) (by omega) (by rw [List.length_append];omega)
    have e1:(((X ++ V).length + U2.length:Nat):Int)=((X.length + (U1 ++ U2).length:Nat):Int):=by rw [List.length_append,List.length_append];omega
    have e3:(U1.length:Int)=(V.length:Int):=by omega
    have e2:wrap64 (((U1 ++ U2).length:Int) - (V.length:Int))=(U2.length:Int):=by rw [w64n_ _ (by rw [List.length_append];omega) (by rw [List.length_append];omega),List.length_append];omega
    rw [e1,e3] at g
    simp only [e2]
    rw [show X ++ V ++ (U1 ++ U2) ++ Y=X ++ V ++ U1 ++ U2 ++ Y by simp]
    exact g
   ·simp only [c1,c2,↓reduceIte,hwm]
    have hle:U.length < V.length:=by clear hwm;omega
    obtain ⟨V1,V2,rfl,h1⟩:∃ V1 V2,V=V1 ++ V2∧V2.length=U.length:=⟨V.take (V.length - U.length),V.drop (V.length - U.length),(List.take_append_drop _ _).symm,by rw [List.length_drop];exact Nat.sub_sub_self (Nat.le_of_lt hle)⟩
    clear hwm hm
    rw [List.length_append] at hN hV hl c1 c2 hle
    have s:=swp_ev X U V1 V2 Y h1.symm (by omega) (X.length:Int) ((X.length + U.length + V1.length:Nat):Int) (U.length:Int) rfl rfl rfl
    rw [show X ++ U ++ V1 ++ V2 ++ Y=X ++ U ++ (V1 ++ V2) ++ Y by simp] at s
    have g:=ih X V2 V1 (U ++ Y) (by omega) (by omega) (by omega) (by rw [List.length_append];omega)
    have e1:((X.length + V2.length:Nat):Int)=((X.length + U.length:Nat):Int):=by omega
    have e3:(V2.length:Int)=(U.length:Int):=by omega
    have e5:wrap64 (((X.length + U.length:Nat):Int) + ((V1 ++ V2).length:Int))=((X.length + U.length:Nat):Int) + ((V1 ++ V2).length:Int):=by rw [List.length_append];exact w64n_ _ (by omega) (by omega)
    have e6:wrap64 (((X.length + U.length:Nat):Int) + ((V1 ++ V2).length:Int) - (U.length:Int))=((X.length + U.length + V1.length:Nat):Int):=by rw [List.length_append,w64n_ _ (by clear e5;omega) (by clear e5;omega)];clear e5;omega
    have e2:wrap64 (((V1 ++ V2).length:Int) - (U.length:Int))=(V1.length:Int):=by rw [List.length_append,w64n_ _ (by clear e5 e6;omega) (by clear e5 e6;omega)];clear e5 e6;omega
    rw [e1,e3] at g
    simp only [e5,e6,e2]
    refine Ev.bind s ?_
    rw [show X ++ V2 ++ V1 ++ U ++ Y=X ++ V2 ++ V1 ++ (U ++ Y) by simp,show X ++ (V1 ++ V2) ++ U ++ Y=X ++ V1 ++ V2 ++ (U ++ Y) by simp]
    exact g
theorem rot_ev (X U V Y:List S33) (hU:0 < U.length) (hV:0 < V.length) (hl:X.length + U.length + V.length + Y.length≤4294967295) (a m b:Int) (ha:a=(X.length:Int)) (hm:m=((X.length + U.length:Nat):Int)) (hb:b=((X.length + U.length + V.length:Nat):Int)) :
  Ev (fun k=>api_File_88.f k (X ++ U ++ V ++ Y) a m b) (X ++ V ++ U ++ Y):=by
 subst ha hm hb
 unfold api_File_88.f
 have e1:wrap64 (((X.length + U.length:Nat):Int) - (X.length:Int))=(U.length:Int):=by rw [w64n_ _ (by omega) (by omega)];omega
 have e2:wrap64 (((X.length + U.length + V.length:Nat):Int) - ((X.length + U.length:Nat):Int))=(V.length:Int):=by clear e1;rw [w64n_ _ (by omega) (by omega)];omega
 rw [e1,e2]
 exact rot_l0 _ X U V Y (Nat.le_refl _) hU hV hl
theorem half_ (lo hi:Nat) (h:lo + hi≤8589934592):wrap64 (IntKind.u64.wrap (wrap64 ((lo:Int) + (hi:Int))) / 2)=(((lo + hi) / 2:Nat):Int):=by
 have e1:wrap64 ((lo:Int) + (hi:Int))=((lo + hi:Nat):Int):=by rw [w64n_ _ (by omega) (by omega)];omega
 have e2:IntKind.u64.wrap ((lo + hi:Nat):Int)=((lo + hi:Nat):Int):=by
  clear e1
  rw [IntKind.wrap_u64]
  omega
 rw [e1,e2]
 clear e1 e2
 rw [w64n_ _ (by omega) (by omega)]
 omega
theorem thr_ (p:Nat→Prop) (hd:∀ c,p c∨¬ p c) (lo:Nat):∀ (d hi:Nat),hi - lo=d→lo≤hi→(∀ c c',lo≤c'→c'≤c→c < hi→p c→p c')→∃ t,lo≤t∧t≤hi∧∀ c,lo≤c→c < hi→(p c ↔ c < t)
 | 0,hi,h,hle,_=>⟨lo,Nat.le_refl _,hle,fun c h1 h2=>by omega⟩
 | d + 1,hi,h,hle,mono=>by
  obtain ⟨t,t1,t2,t3⟩:=thr_ p hd lo d (hi - 1) (by omega) (by omega) (fun c c' h1 h2 h3=>mono c c' h1 h2 (by omega))
  rcases hd (hi - 1) with q|q
  ·refine ⟨hi,hle,Nat.le_refl _,fun c h1 h2=>⟨fun _=>h2,fun _=>mono (hi - 1) c h1 (by omega) (by omega) q⟩⟩
  ·refine ⟨t,t1,by omega,fun c h1 h2=>?_⟩
   by_cases e:c=hi - 1
   ·subst e
    exact ⟨fun w=>absurd w q,fun w=>by omega⟩
   ·exact t3 c h1 (by omega)
theorem okS_rd (D:List S33) (h:okS D) (c:Nat) (hc:c < D.length):(rd_T33 D (c:Int)).f0.size≤9223372036854775807:=by
 rw [rdF_nat _ _ hc]
 exact h _ (List.getElem_mem hc)
theorem sym_l0 (D:List S33) (hD:D.length≤4294967295) (hok:okS D) (a t:Nat) (ha:a < D.length) (r:List S33) (h:Ev (fun k=>api_File_86.l1 k D (t:Int) (a:Int)) r):∀ (d lo hi:Nat),hi - lo=d→lo≤t→t≤hi→hi≤D.length →
  (∀ c,lo≤c→c < hi→(ahead keyF (rd_T33 D (c:Int)) (rd_T33 D (a:Int)) ↔ c < t))→Ev (fun k=>api_File_86.l0 k D (a:Int) (lo:Int) (hi:Int)) r:=by
 intro d
 induction d using Nat.strongRecOn with
 | _ d ih =>
  intro lo hi hd h1 h2 h3 hp
  apply Ev.step
  ·intro k;rw [api_File_86.l0]
  by_cases c1:(lo:Int) < (hi:Int)
  ·have hlh:lo < hi:=by omega
   obtain ⟨c,hc⟩:∃ c,(lo + hi) / 2=c:=⟨_,rfl⟩
   have b1:lo≤c:=by omega
   have b2:c < hi:=by omega
   have b3:c < D.length:=by omega
   have c2:(0:Int)≤(c:Int):=by omega
   have c3:(c:Int) < (D.length:Int):=by omega
   have c4:(0:Int)≤(a:Int):=by omega
   have c5:(a:Int) < (D.length:Int):=by omega
   have hpc:=hp c b1 b2
   obtain ⟨x,hx⟩:∃ x,rd_T33 D (c:Int)=x:=⟨_,rfl⟩
   obtain ⟨y,hy⟩:∃ y,rd_T33 D (a:Int)=y:=⟨_,rfl⟩
   obtain ⟨u,t1,t2⟩:=cmp_ev x y (by rw [← hx];exact okS_rd D hok c b3) (by rw [← hy];exact okS_rd D hok a ha)
   rw [hx,hy] at hpc
   have i1:=ih (hi - (c + 1)) (by omega) (c + 1) hi rfl
   have i2:=ih (c - lo) (by omega) lo c rfl h1
   have hb1:(lo + hi)≤8589934592:=by omega
   have hw2:wrap64 ((c:Int) + 1)=((c + 1:Nat):Int):=by rw [w64n_ _ (by omega) (by omega)];omega
   have hw:=half_ lo hi hb1
   rw [hc] at hw
   simp only [c1,hw,c2,c3,c4,c5,hx,hy,↓reduceIte]
   refine Ev.bind t1 ?_
   clear hw hb1
   by_cases q:u < 0
   ·simp only [q,↓reduceIte,hw2]
    clear hw2
    exact i1 (Nat.succ_le_of_lt (hpc.1 (t2.1 q))) h2 h3 (fun e h4 h5=>hp e (by omega) h5)
   ·simp only [q,↓reduceIte]
    clear hw2
    have:¬ c < t:=fun e=>q (t2.2 (hpc.2 e))
    exact i2 (by omega) (by omega) (fun e h4 h5=>hp e h4 (by omega))
  ·simp only [c1,↓reduceIte]
   have e:lo=t:=by omega
   rw [e]
   exact h
theorem sym_l2 (D:List S33) (hD:D.length≤4294967295) (hok:okS D) (m t:Nat) (hm:m < D.length) (r:List S33) (h:Ev (fun k=>api_File_86.l3 k D (t:Int) (m:Int)) r):∀ (d lo hi:Nat),hi - lo=d→lo≤t→t≤hi→hi≤D.length →
  (∀ c,lo≤c→c < hi→(¬ ahead keyF (rd_T33 D (m:Int)) (rd_T33 D (c:Int)) ↔ c < t))→Ev (fun k=>api_File_86.l2 k D (m:Int) (lo:Int) (hi:Int)) r:=by
 intro d
 induction d using Nat.strongRecOn with
 | _ d ih =>
  intro lo hi hd h1 h2 h3 hp
  apply Ev.step
  ·intro k;rw [api_File_86.l2]
  by_cases c1:(lo:Int) < (hi:Int)
  ·have hlh:lo < hi:=by omega
   obtain ⟨c,hc⟩:∃ c,(lo + hi) / 2=c:=⟨_,rfl⟩
   have b1:lo≤c:=by omega
   have b2:c < hi:=by omega
   have b3:c < D.length:=by omega
   have c2:(0:Int)≤(c:Int):=by omega
   have c3:(c:Int) < (D.length:Int):=by omega
   have c4:(0:Int)≤(m:Int):=by omega
   have c5:(m:Int) < (D.length:Int):=by omega
   have hpc:=hp c b1 b2
   obtain ⟨x,hx⟩:∃ x,rd_T33 D (c:Int)=x:=⟨_,rfl⟩
   obtain ⟨y,hy⟩:∃ y,rd_T33 D (m:Int)=y:=⟨_,rfl⟩
   obtain ⟨u,t1,t2⟩:=cmp_ev y x (by rw [← hy];exact okS_rd D hok m hm) (by rw [← hx];exact okS_rd D hok c b3)
   rw [hx,hy] at hpc
   have i1:=ih (hi - (c + 1)) (by omega) (c + 1) hi rfl
   have i2:=ih (c - lo) (by omega) lo c rfl h1
   have hb1:(lo + hi)≤8589934592:=by omega
   have hw2:wrap64 ((c:Int) + 1)=((c + 1:Nat):Int):=by rw [w64n_ _ (by omega) (by omega)];omega
   have hw:=half_ lo hi hb1
   rw [hc] at hw
   simp only [c1,hw,c2,c3,c4,c5,hx,hy,↓reduceIte]
   refine Ev.bind t1 ?_
   clear hw hb1
   by_cases q:u < 0
   ·simp only [q,↓reduceIte]
    clear hw2
    have:¬ c < t:=fun e=>(hpc.2 e) (t2.1 q)
    exact i2 (by omega) (by omega) (fun e h4 h5=>hp e h4 (by omega))
   ·simp only [q,↓reduceIte,hw2]
    clear hw2
    exact i1 (Nat.succ_le_of_lt (hpc.1 (fun e=>q (t2.2 e)))) h2 h3 (fun e h4 h5=>hp e (by omega) h5)
  ·simp only [c1,↓reduceIte]
   have e:lo=t:=by omega
   rw [e]
   exact h
theorem sym_l1 (i:Int) (x:S33) (Y:List S33):∀ (B1 X:List S33),i=((X.length + B1.length + 1:Nat):Int)→X.length + B1.length + 1 + Y.length≤4294967295→Ev (fun k=>api_File_86.l1 k (X ++ x :: (B1 ++ Y)) i (X.length:Int)) (X ++ B1 ++ x :: Y)
 | [],X,hi,hl=>by
  rw [List.length_nil] at hi hl
  have hw:wrap64 (i - 1)=(X.length:Int):=by rw [w64n_ _ (by omega) (by omega)];omega
  apply Ev.step
  ·intro k;rw [api_File_86.l1]
  have c1:¬ ((X.length:Int) < (X.length:Int)):=Int.lt_irrefl _
  simp only [hw,c1,↓reduceIte]
  rw [List.nil_append,List.append_nil]
  exact Ev.now _
 | y :: B1,X,hi,hl=>by
  rw [List.length_cons] at hi hl
  have ih:=sym_l1 i x Y B1 (X ++ [y]) (by rw [List.length_append,List.length_singleton];omega) (by rw [List.length_append,List.length_singleton];omega)
  have e2:X ++ x :: (y :: B1 ++ Y)=(X ++ [x]) ++ y :: (B1 ++ Y):=by simp
  have hlen:(X ++ x :: (y :: B1 ++ Y)).length=X.length + B1.length + 2 + Y.length:=by simp only [List.length_append,List.length_cons];omega
  have r1:rd_T33 (X ++ x :: (y :: B1 ++ Y)) (X.length:Int)=x:=rdm_ _ _ _ _ rfl
  have r2:rd_T33 (X ++ x :: (y :: B1 ++ Y)) ((X.length + 1:Nat):Int)=y:=by rw [e2];exact rdm_ _ _ _ _ (by simp only [List.length_append,List.length_cons,List.length_nil] <;> omega)
  have s1:∀ p q:S33,((X ++ x :: (y :: B1 ++ Y)).set (X.length:Int).toNat p).set ((X.length + 1:Nat):Int).toNat q=(X ++ [p]) ++ q :: (B1 ++ Y):=by
   intro p q
   rw [setm_ X _ x p _ rfl,show X ++ p :: (y :: B1 ++ Y)=(X ++ [p]) ++ y :: (B1 ++ Y) by simp,setm_ (X ++ [p]) (B1 ++ Y) y q _ (by simp only [List.length_append,List.length_cons,List.length_nil] <;> omega)]
  apply Ev.step
  ·intro k;rw [api_File_86.l1]
  have c1:((X.length:Int) < ((X.length + (B1.length + 1):Nat):Int)):=by omega
  have c2:(0:Int)≤((X.length + 1:Nat):Int):=by omega
  have c3:((X.length + 1:Nat):Int) < ((X ++ x :: (y :: B1 ++ Y)).length:Int):=by rw [hlen];omega
  have c4:(0:Int)≤(X.length:Int):=by omega
  have c5:(X.length:Int) < ((X ++ x :: (y :: B1 ++ Y)).length:Int):=by rw [hlen];omega
  have e3:((X ++ [y]).length:Int)=((X.length + 1:Nat):Int):=by rw [List.length_append,List.length_singleton]
  have hw:wrap64 (i - 1)=((X.length + (B1.length + 1):Nat):Int):=by rw [w64n_ _ (by omega) (by omega)];omega
  have hw2:wrap64 ((X.length:Int) + 1)=((X.length + 1:Nat):Int):=by clear hw;rw [w64n_ _ (by omega) (by omega)];omega
  simp only [hw,hw2,c1,c2,c3,c4,c5,r1,r2,s1,↓reduceIte]
  rw [e3] at ih
  rw [show X ++ (y :: B1) ++ x :: Y=X ++ [y] ++ B1 ++ x :: Y by simp]
  exact ih
theorem sym_l3 (x:S33) (X:List S33):∀ (n:Nat) (A2 Y:List S33),A2.length=n→X.length + n + 1 + Y.length≤4294967295→Ev (fun k=>api_File_86.l3 k (X ++ A2 ++ x :: Y) (X.length:Int) ((X.length + n:Nat):Int)) (X ++ x :: A2 ++ Y):=by
 intro n
 induction n with
 | zero =>
  intro A2 Y hA hl
  have e:A2=[]:=List.eq_nil_of_length_eq_zero hA
  subst e
  apply Ev.step
  ·intro k;rw [api_File_86.l3]
  have c1:¬ (((X.length + 0:Nat):Int) > (X.length:Int)):=by omega
  simp only [c1,↓reduceIte]
  rw [show X ++ [] ++ x :: Y=X ++ [x] ++ Y by simp]
  exact Ev.now _
 | succ n ih =>
  intro A2 Y hA hl
  obtain ⟨A',y,rfl⟩:∃ A' y,A2=A' ++ [y]:=⟨A2.dropLast,A2.getLast (by intro e;subst e;simp at hA),(List.dropLast_concat_getLast _).symm⟩
  rw [List.length_append,List.length_singleton] at hA
  have hn:A'.length=n:=by omega
  have i1:=ih A' (y :: Y) hn (by rw [List.length_cons];omega)
  have e1:X ++ (A' ++ [y]) ++ x :: Y=(X ++ A' ++ [y]) ++ x :: Y:=by simp
  have e2:X ++ (A' ++ [y]) ++ x :: Y=(X ++ A') ++ y :: (x :: Y):=by simp
  have hlen:(X ++ (A' ++ [y]) ++ x :: Y).length=X.length + n + 1 + (Y.length + 1):=by simp only [List.length_append,List.length_nil,List.length_cons] <;> omega
  have r1:rd_T33 (X ++ (A' ++ [y]) ++ x :: Y) ((X.length + (n + 1):Nat):Int)=x:=by rw [e1];exact rdm_ _ _ _ _ (by simp only [List.length_append,List.length_nil,List.length_cons] <;> omega)
  have r2:rd_T33 (X ++ (A' ++ [y]) ++ x :: Y) ((X.length + n:Nat):Int)=y:=by rw [e2];exact rdm_ _ _ _ _ (by simp only [List.length_append];omega)
  have s1:∀ u v:S33,((X ++ (A' ++ [y]) ++ x :: Y).set ((X.length + (n + 1):Nat):Int).toNat u).set ((X.length + n:Nat):Int).toNat v=(X ++ A') ++ v :: (u :: Y):=by
   intro u v
   rw [e1,setm_ (X ++ A' ++ [y]) Y x u _ (by simp only [List.length_append,List.length_nil,List.length_cons] <;> omega),show (X ++ A' ++ [y]) ++ u :: Y=(X ++ A') ++ y :: (u :: Y) by simp,setm_ (X ++ A') (u :: Y) y v _ (by simp only [List.length_append];omega)]
  apply Ev.step
  ·intro k;rw [api_File_86.l3]
  have c1:(((X.length + (n + 1):Nat):Int) > (X.length:Int)):=by omega
  have c2:(0:Int)≤((X.length + (n + 1):Nat):Int):=by omega
  have c3:((X.length + (n + 1):Nat):Int) < ((X ++ (A' ++ [y]) ++ x :: Y).length:Int):=by rw [hlen];omega
  have c4:(0:Int)≤((X.length + n:Nat):Int):=by omega
  have c5:((X.length + n:Nat):Int) < ((X ++ (A' ++ [y]) ++ x :: Y).length:Int):=by rw [hlen];omega
  have hw:wrap64 (((X.length + (n + 1):Nat):Int) - 1)=((X.length + n:Nat):Int):=by rw [w64n_ _ (by omega) (by omega)];omega
  simp only [hw,c1,c2,c3,c4,c5,r1,r2,s1,↓reduceIte]
  rw [show X ++ x :: (A' ++ [y]) ++ Y=X ++ x :: A' ++ y :: Y by simp]
  exact i1
theorem sym_l4 (D:List S33) (hD:D.length≤4294967295) (hok:okS D) (a m b mid t n p:Nat) (hp1:p + 1=n) (x3:Int) (r:List S33)
  (h:Ev (fun k=>if (t:Int) < (m:Int) then (api_File_86.j6 k D (a:Int) (m:Int) x3 (mid:Int) (t:Int) (wrap64 ((n:Int) - (t:Int))) (decide ((m:Int) < (wrap64 ((n:Int) - (t:Int)))))) else (api_File_86.j6 k D (a:Int) (m:Int) x3 (mid:Int) (t:Int) (wrap64 ((n:Int) - (t:Int))) false)) r):∀ (d lo hi:Nat),hi - lo=d→lo≤t→t≤hi→hi≤D.length →
  (∀ c,lo≤c→c < hi→c≤p∧p - c < D.length) →
  (∀ c,lo≤c→c < hi→(¬ ahead keyF (rd_T33 D ((p - c:Nat):Int)) (rd_T33 D (c:Int)) ↔ c < t))→Ev (fun k=>api_File_86.l4 k D (a:Int) (m:Int) x3 (mid:Int) (n:Int) (lo:Int) (hi:Int) (p:Int)) r:=by
 intro d
 induction d using Nat.strongRecOn with
 | _ d ih =>
  intro lo hi hd h1 h2 h3 hr hp
  apply Ev.step
  ·intro k;rw [api_File_86.l4]
  by_cases c1:(lo:Int) < (hi:Int)
  ·have hlh:lo < hi:=by omega
   obtain ⟨c,hc⟩:∃ c,(lo + hi) / 2=c:=⟨_,rfl⟩
   have b1:lo≤c:=by omega
   have b2:c < hi:=by omega
   have b3:c < D.length:=by omega
   obtain ⟨b4,b5⟩:=hr c b1 b2
   have hpc:=hp c b1 b2
   obtain ⟨e,he⟩:∃ e,p - c=e:=⟨_,rfl⟩
   rw [he] at b5 hpc
   have c2:(0:Int)≤(c:Int):=by omega
   have c3:(c:Int) < (D.length:Int):=by omega
   have c4:(0:Int)≤(e:Int):=by omega
   have c5:(e:Int) < (D.length:Int):=by omega
   obtain ⟨x,hx⟩:∃ x,rd_T33 D (c:Int)=x:=⟨_,rfl⟩
   obtain ⟨y,hy⟩:∃ y,rd_T33 D (e:Int)=y:=⟨_,rfl⟩
   obtain ⟨u,t1,t2⟩:=cmp_ev y x (by rw [← hy];exact okS_rd D hok e b5) (by rw [← hx];exact okS_rd D hok c b3)
   rw [hx,hy] at hpc
   have i1:=ih (hi - (c + 1)) (by omega) (c + 1) hi rfl
   have i2:=ih (c - lo) (by omega) lo c rfl h1
   have hb1:(lo + hi)≤8589934592:=by omega
   have hpb:(p:Int) - (c:Int)=(e:Int):=by omega
   have hpe:wrap64 ((p:Int) - (c:Int))=(e:Int):=by rw [hpb];exact w64n_ _ (by omega) (by omega)
   have hw2:wrap64 ((c:Int) + 1)=((c + 1:Nat):Int):=by clear hpe;rw [w64n_ _ (by omega) (by omega)];omega
   have hw:=half_ lo hi hb1
   rw [hc] at hw
   simp only [c1,hw,hpe,c2,c3,c4,c5,hx,hy,↓reduceIte]
   refine Ev.bind t1 ?_
   clear hw hb1 hpe hpb
   by_cases q:u < 0
   ·simp only [q,↓reduceIte]
    clear hw2
    have:¬ c < t:=fun e=>(hpc.2 e) (t2.1 q)
    exact i2 (by omega) (by omega) (fun e h4 h5=>hr e h4 (by omega)) (fun e h4 h5=>hp e h4 (by omega))
   ·simp only [q,↓reduceIte,hw2]
    clear hw2
    exact i1 (Nat.succ_le_of_lt (hpc.1 (fun e=>q (t2.2 e)))) h2 h3 (fun e h4 h5=>hr e (by omega) h5) (fun e h4 h5=>hp e (by omega) h5)
  ·have e:lo=t:=by omega
   rw [e]
   rw [e] at c1
   simp only [c1,↓reduceIte]
   exact h
theorem okS_app {A B:List S33} (h1:okS A) (h2:okS B):okS (A ++ B):=fun x hx=>by
 rcases List.mem_append.1 hx with e|e
 ·exact h1 x e
 ·exact h2 x e
theorem mergeL_mem (x:S33):∀ (n:Nat) (A B:List S33),A.length + B.length=n→x ∈ mergeL keyF A B→x ∈ A∨x ∈ B
 | _,[],B,_,h=>by rw [nil_mergeL] at h;exact .inr h
 | _,a :: A,[],_,h=>by rw [mergeL_nil] at h;exact .inl h
 | 0,a :: A,b :: B,hn,_=>by simp at hn
 | n + 1,a :: A,b :: B,hn,h=>by
  simp only [List.length_cons] at hn
  rw [mergeL_cons] at h
  split at h
  ·rcases List.mem_cons.1 h with e|e
   ·exact .inr (by rw [e];exact List.mem_cons_self)
   ·rcases mergeL_mem x n (a :: A) B (by simp only [List.length_cons];omega) e with g|g
    ·exact .inl g
    ·exact .inr (List.mem_cons_of_mem _ g)
  ·rcases List.mem_cons.1 h with e|e
   ·exact .inl (by rw [e];exact List.mem_cons_self)
   ·rcases mergeL_mem x n A (b :: B) (by simp only [List.length_cons];omega) e with g|g
    ·exact .inl (List.mem_cons_of_mem _ g)
    ·exact .inr g
theorem sorted_le (A:List S33) (h:SortedW keyF A) (i j:Nat) (hj:j < A.length) (hij:i≤j):¬ ahead keyF (A[j]'hj) (A[i]'(Nat.lt_of_le_of_lt hij hj)):=by
 rcases Nat.lt_or_ge i j with g|g
 ·exact List.pairwise_iff_getElem.1 h i j (by omega) hj g
 ·have:i=j:=by omega
  subst this
  exact ltP_irrefl _
theorem mergeL_one_l (x:S33) (B1 B2:List S33) (h1:∀ y ∈ B1,ahead keyF y x) (h2:∀ y ∈ B2,¬ ahead keyF y x):mergeL keyF [x] (B1 ++ B2)=B1 ++ x :: B2:=by
 have:=mergeL_split keyF _ [] [x] B1 B2 rfl (fun z hz=>by cases hz) (fun y hy z hz=>by rw [List.mem_singleton.1 hz];exact h1 y hy)
 rw [nil_mergeL,List.nil_append] at this
 rw [this]
 cases B2 with
 | nil=>rw [mergeL_nil]
 | cons b B2=>rw [mergeL_cons,if_neg (h2 b List.mem_cons_self),nil_mergeL]
theorem mergeL_one_r (x:S33) (A1 A2:List S33) (h1:∀ y ∈ A1,¬ ahead keyF x y) (h2:∀ y ∈ A2,ahead keyF x y):mergeL keyF (A1 ++ A2) [x]=A1 ++ x :: A2:=by
 have:=mergeL_split keyF _ A1 A2 [] [x] rfl (fun y hy z hz=>by rw [List.mem_singleton.1 hz];exact h1 y hy) (fun z hz=>by cases hz)
 rw [mergeL_nil,List.nil_append] at this
 rw [this]
 cases A2 with
 | nil=>rw [nil_mergeL]
 | cons a A2=>rw [mergeL_cons,if_pos (h2 a List.mem_cons_self),mergeL_nil]

theorem rd_seg (P A Q:List S33) (c:Nat) (h1:P.length≤c) (h2:c < P.length + A.length):rd_T33 (P ++ A ++ Q) (c:Int)=A[c - P.length]'(by omega):=by
 rw [rdF_nat _ _ (by simp only [List.length_append];omega),List.getElem_append_left (by rw [List.length_append];omega),List.getElem_append_right h1]
theorem mem_take_ (A:List S33) (n:Nat) (x:S33) (h:x ∈ A.take n):∃ i,∃ hi:i < A.length,i < n∧A[i]'hi=x:=by
 obtain ⟨i,hi,e⟩:=List.getElem_of_mem h
 rw [List.length_take] at hi
 refine ⟨i,by omega,by omega,?_⟩
 rw [← e,List.getElem_take]
theorem mem_drop_ (A:List S33) (n:Nat) (x:S33) (h:x ∈ A.drop n):∃ i,∃ hi:i < A.length,n≤i∧A[i]'hi=x:=by
 obtain ⟨i,hi,e⟩:=List.getElem_of_mem h
 rw [List.length_drop] at hi
 refine ⟨n + i,by omega,by omega,?_⟩
 rw [← e,List.getElem_drop]
theorem dec_ (p q:S33):ahead keyF p q∨¬ ahead keyF p q:=Decidable.em _
theorem sym_one_l (P B Q:List S33) (x:S33) (hB:0 < B.length) (hok:okS (P ++ (x :: B) ++ Q)) (hs:SortedW keyF B) (hl:P.length + 1 + B.length + Q.length≤4294967295) :
  Ev (fun k=>api_File_86.l0 k (P ++ (x :: B) ++ Q) (P.length:Int) ((P.length + 1:Nat):Int) ((P.length + 1 + B.length:Nat):Int)) (P ++ mergeL keyF [x] B ++ Q):=by
 have hlen:(P ++ (x :: B) ++ Q).length=P.length + 1 + B.length + Q.length:=by simp only [List.length_append,List.length_cons] <;> omega
 have ra:rd_T33 (P ++ (x :: B) ++ Q) (P.length:Int)=x:=by rw [List.append_assoc];exact rdm_ P (B ++ Q) x _ rfl
 have rc:∀ c,P.length + 1≤c→(h:c < P.length + 1 + B.length)→rd_T33 (P ++ (x :: B) ++ Q) (c:Int)=B[c - (P.length + 1)]'(by omega):=fun c h1 h2=>by
  have:=rd_seg (P ++ [x]) B Q c (by simp only [List.length_append,List.length_cons,List.length_nil];omega) (by simp only [List.length_append,List.length_cons,List.length_nil];omega)
  rw [show P ++ [x] ++ B ++ Q=P ++ (x :: B) ++ Q by simp] at this
  rw [this]
  congr 1
  simp only [List.length_append,List.length_cons,List.length_nil] <;> omega
 obtain ⟨t,t1,t2,t3⟩:=thr_ (fun c=>ahead keyF (rd_T33 (P ++ (x :: B) ++ Q) (c:Int)) (rd_T33 (P ++ (x :: B) ++ Q) (P.length:Int))) (fun c=>dec_ _ _) (P.length + 1) _ (P.length + 1 + B.length) rfl (by omega) (fun c c' h1 h2 h3 hc=>by
  rw [ra,rc c (by omega) h3] at hc
  rw [ra,rc c' h1 (by omega)]
  exact ltP_of_le_lt (sorted_le B hs _ _ _ (by omega)) hc)
 refine sym_l0 _ (by rw [hlen];exact hl) hok P.length t (by rw [hlen];omega) _ ?_ _ (P.length + 1) (P.length + 1 + B.length) rfl t1 t2 (by rw [hlen];omega) t3
 have hB1:∀ y ∈ B.take (t - (P.length + 1)),ahead keyF y x:=fun y hy=>by
  obtain ⟨i,hi,hi2,e⟩:=mem_take_ B _ y hy
  have:=(t3 (P.length + 1 + i) (by omega) (by omega)).2 (by omega)
  rw [ra,rc (P.length + 1 + i) (by omega) (by omega)] at this
  rw [← e]
  simp only [Nat.add_sub_cancel_left] at this
  exact this
 have hB2:∀ y ∈ B.drop (t - (P.length + 1)),¬ ahead keyF y x:=fun y hy hlt=>by
  obtain ⟨i,hi,hi2,e⟩:=mem_drop_ B _ y hy
  have h4:ahead keyF (rd_T33 (P ++ (x :: B) ++ Q) ((P.length + 1 + i:Nat):Int)) (rd_T33 (P ++ (x :: B) ++ Q) (P.length:Int)):=by
   rw [ra,rc (P.length + 1 + i) (by omega) (by omega)]
   simp only [Nat.add_sub_cancel_left]
   rw [e]
   exact hlt
  have:=(t3 (P.length + 1 + i) (by omega) (by omega)).1 h4
  omega
 have hm:=mergeL_one_l x _ _ hB1 hB2
 rw [List.take_append_drop] at hm
 rw [hm]
 have hb1:(B.take (t - (P.length + 1))).length=t - (P.length + 1):=by rw [List.length_take];omega
 have:=sym_l1 (t:Int) x (B.drop (t - (P.length + 1)) ++ Q) (B.take (t - (P.length + 1))) P (by rw [hb1];omega) (by rw [hb1,List.length_append,List.length_drop];omega)
 rw [← List.append_assoc,List.take_append_drop] at this
 rw [show P ++ (x :: B) ++ Q=P ++ x :: (B ++ Q) by simp,show P ++ (B.take (t - (P.length + 1)) ++ x :: B.drop (t - (P.length + 1))) ++ Q=P ++ B.take (t - (P.length + 1)) ++ x :: (B.drop (t - (P.length + 1)) ++ Q) by simp]
 exact this
theorem sym_one_r (P A Q:List S33) (x:S33) (hA:0 < A.length) (hok:okS (P ++ A ++ (x :: Q))) (hs:SortedW keyF A) (hl:P.length + A.length + 1 + Q.length≤4294967295) :
  Ev (fun k=>api_File_86.l2 k (P ++ A ++ (x :: Q)) ((P.length + A.length:Nat):Int) (P.length:Int) ((P.length + A.length:Nat):Int)) (P ++ mergeL keyF A [x] ++ Q):=by
 have hlen:(P ++ A ++ (x :: Q)).length=P.length + A.length + 1 + Q.length:=by simp only [List.length_append,List.length_cons] <;> omega
 have ra:rd_T33 (P ++ A ++ (x :: Q)) ((P.length + A.length:Nat):Int)=x:=rdm_ (P ++ A) Q x _ (by rw [List.length_append])
 have rc:∀ c,P.length≤c→(h:c < P.length + A.length)→rd_T33 (P ++ A ++ (x :: Q)) (c:Int)=A[c - P.length]'(by omega):=fun c h1 h2=>rd_seg P A (x :: Q) c h1 h2
 obtain ⟨t,t1,t2,t3⟩:=thr_ (fun c=>¬ ahead keyF (rd_T33 (P ++ A ++ (x :: Q)) ((P.length + A.length:Nat):Int)) (rd_T33 (P ++ A ++ (x :: Q)) (c:Int))) (fun c=>Decidable.em _) P.length _ (P.length + A.length) rfl (by omega) (fun c c' h1 h2 h3 hc=>by
  rw [ra,rc c (by omega) h3] at hc
  rw [ra,rc c' h1 (by omega)]
  exact ltP_le_trans (sorted_le A hs _ _ _ (by omega)) hc)
 refine sym_l2 _ (by rw [hlen];exact hl) hok (P.length + A.length) t (by rw [hlen];omega) _ ?_ _ P.length (P.length + A.length) rfl t1 t2 (by rw [hlen];omega) t3
 have hA1:∀ y ∈ A.take (t - P.length),¬ ahead keyF x y:=fun y hy=>by
  obtain ⟨i,hi,hi2,e⟩:=mem_take_ A _ y hy
  have:=(t3 (P.length + i) (by omega) (by omega)).2 (by omega)
  rw [ra,rc (P.length + i) (by omega) (by omega)] at this
  rw [← e]
  simp only [Nat.add_sub_cancel_left] at this
  exact this
 have hA2:∀ y ∈ A.drop (t - P.length),ahead keyF x y:=fun y hy=>by
  obtain ⟨i,hi,hi2,e⟩:=mem_drop_ A _ y hy
  rcases dec_ x y with g|g
  ·exact g
  ·have h4:¬ ahead keyF (rd_T33 (P ++ A ++ (x :: Q)) ((P.length + A.length:Nat):Int)) (rd_T33 (P ++ A ++ (x :: Q)) ((P.length + i:Nat):Int)):=by
    rw [ra,rc (P.length + i) (by omega) (by omega)]
    simp only [Nat.add_sub_cancel_left]
    rw [e]
    exact g
   have:=(t3 (P.length + i) (by omega) (by omega)).1 h4
   omega
 have hm:=mergeL_one_r x _ _ hA1 hA2
 rw [List.take_append_drop] at hm
 rw [hm]
 have hb1:(A.take (t - P.length)).length=t - P.length:=by rw [List.length_take];omega
 have hb2:(A.drop (t - P.length)).length=P.length + A.length - t:=by rw [List.length_drop];omega
 have:=sym_l3 x (P ++ A.take (t - P.length)) _ (A.drop (t - P.length)) Q rfl (by rw [List.length_append,hb1,hb2];omega)
 rw [show ((P ++ A.take (t - P.length)).length:Int)=(t:Int) by rw [List.length_append,hb1];omega,show (((P ++ A.take (t - P.length)).length + (A.drop (t - P.length)).length:Nat):Int)=((P.length + A.length:Nat):Int) by rw [List.length_append,hb1,hb2];omega] at this
 rw [show P ++ A.take (t - P.length) ++ A.drop (t - P.length) ++ x :: Q=P ++ A ++ x :: Q by rw [List.append_assoc P,List.take_append_drop]] at this
 rw [show P ++ (A.take (t - P.length) ++ x :: A.drop (t - P.length)) ++ Q=P ++ A.take (t - P.length) ++ x :: A.drop (t - P.length) ++ Q by simp]
 exact this
end Go.Proofs.YtmeofdpmddjbgaaDoor.G
end
section
namespace Go.Proofs.YtmeofdpmddjbgaaDoor.G
open Go.RowKit Go.Proofs.YtmeofdpmddjbgaaDoorW.PrintWords Go.Proofs.YtmeofdpmddjbgaaDoorW.PrintLast Go.Proofs.YtmeofdpmddjbgaaDoorW.PrintMore
set_option linter.unusedVariables false
set_option linter.unusedSimpArgs false

def SymIH (N:Nat):Prop:=∀ (P A B Q:List S33),A.length + B.length≤N→0 < A.length→0 < B.length→okS (P ++ A ++ B ++ Q)→SortedW keyF A→SortedW keyF B→P.length + A.length + B.length + Q.length≤4294967295 →
  Ev (fun k=>api_File_86.f k (P ++ A ++ B ++ Q) (P.length:Int) ((P.length + A.length:Nat):Int) ((P.length + A.length + B.length:Nat):Int)) (P ++ mergeL keyF A B ++ Q)
theorem sym_right (N:Nat) (ih:SymIH N) (P A B Q:List S33) (hN:A.length + B.length≤N) (hok:okS (P ++ A ++ B ++ Q)) (hA:SortedW keyF A) (hB:SortedW keyF B) (hl:P.length + A.length + B.length + Q.length≤4294967295) (mid e b:Int) (h1:mid=(P.length:Int)) (h2:e=((P.length + A.length:Nat):Int)) (h3:b=((P.length + A.length + B.length:Nat):Int)) :
  Ev (fun k=>if mid < e then (if e < b then ((api_File_86.f k (P ++ A ++ B ++ Q) mid e b).bind fun t795=>(some t795)) else (some (P ++ A ++ B ++ Q))) else (some (P ++ A ++ B ++ Q))) (P ++ mergeL keyF A B ++ Q):=by
 by_cases c1:mid < e
 ·by_cases c2:e < b
  ·simp only [c1,c2,↓reduceIte]
   have:=ih P A B Q hN (by omega) (by omega) hok hA hB hl
   rw [← h1,← h2,← h3] at this
   exact Ev.bind this (Ev.now _)
  ·simp only [c1,c2,↓reduceIte]
   have e0:B=[]:=List.eq_nil_of_length_eq_zero (by omega)
   subst e0
   rw [mergeL_nil,List.append_nil]
   exact Ev.now _
 ·simp only [c1,↓reduceIte]
  have e0:A=[]:=List.eq_nil_of_length_eq_zero (by omega)
  subst e0
  rw [nil_mergeL,List.append_nil]
  exact Ev.now _
theorem sym_j8 (N:Nat) (ih:SymIH N) (P A1 B1 A2 B2 Q:List S33) (hN1:A1.length + B1.length≤N) (hN2:A2.length + B2.length≤N) (hok:okS (P ++ A1 ++ B1 ++ A2 ++ B2 ++ Q)) (hA1:SortedW keyF A1) (hB1:SortedW keyF B1) (hA2:SortedW keyF A2) (hB2:SortedW keyF B2)
  (hl:P.length + A1.length + B1.length + A2.length + B2.length + Q.length≤4294967295) (t mid e b:Int) (h0:t=((P.length + A1.length:Nat):Int)) (h1:mid=((P.length + A1.length + B1.length:Nat):Int)) (h2:e=((P.length + A1.length + B1.length + A2.length:Nat):Int)) (h3:b=((P.length + A1.length + B1.length + A2.length + B2.length:Nat):Int))
  (x:Bool) (hx:x=decide ((P.length:Int) < t∧t < mid)) :
  Ev (fun k=>api_File_86.j8 k (P ++ A1 ++ B1 ++ A2 ++ B2 ++ Q) (P.length:Int) b mid t e x) (P ++ mergeL keyF A1 B1 ++ mergeL keyF A2 B2 ++ Q):=by
 have hml:=mergeL_length keyF _ A1 B1 rfl
 have hok2:okS (P ++ mergeL keyF A1 B1 ++ A2 ++ B2 ++ Q):=fun z hz=>by
  simp only [List.mem_append] at hz
  rcases hz with (((h|h)|h)|h)|h
  ·exact hok z (by simp [h])
  ·rcases mergeL_mem z _ A1 B1 rfl h with g|g <;> exact hok z (by simp [g])
  ·exact hok z (by simp [h])
  ·exact hok z (by simp [h])
  ·exact hok z (by simp [h])
 have hr:=sym_right N ih (P ++ mergeL keyF A1 B1) A2 B2 Q hN2 hok2 hA2 hB2 (by rw [List.length_append,hml];omega) mid e b (by rw [List.length_append,hml];omega) (by rw [List.length_append,hml];omega) (by rw [List.length_append,hml];omega)
 apply Ev.step
 ·intro k;rw [api_File_86.j8]
 by_cases c:(P.length:Int) < t∧t < mid
 ·rw [hx,decide_eq_true c]
  simp only [↓reduceIte]
  have hl1:=ih P A1 B1 (A2 ++ B2 ++ Q) hN1 (by omega) (by omega) (by rw [show P ++ A1 ++ B1 ++ (A2 ++ B2 ++ Q)=P ++ A1 ++ B1 ++ A2 ++ B2 ++ Q by simp];exact hok) hA1 hB1 (by simp only [List.length_append];omega)
  rw [show P ++ A1 ++ B1 ++ (A2 ++ B2 ++ Q)=P ++ A1 ++ B1 ++ A2 ++ B2 ++ Q by simp,show P ++ mergeL keyF A1 B1 ++ (A2 ++ B2 ++ Q)=P ++ mergeL keyF A1 B1 ++ A2 ++ B2 ++ Q by simp,← h0,← h1] at hl1
  exact Ev.bind hl1 hr
 ·rw [hx,decide_eq_false c]
  simp only [Bool.false_eq_true,↓reduceIte]
  have e0:mergeL keyF A1 B1=A1 ++ B1:=by
   by_cases q:A1.length=0
   ·have:A1=[]:=List.eq_nil_of_length_eq_zero q
    rw [this,nil_mergeL,List.nil_append]
   ·have:B1=[]:=List.eq_nil_of_length_eq_zero (by omega)
    rw [this,mergeL_nil,List.append_nil]
  rw [e0,← List.append_assoc P A1 B1] at hr
  rw [e0,← List.append_assoc P A1 B1]
  exact hr
theorem sym_j7 (N:Nat) (ih:SymIH N) (P A1 B1 A2 B2 Q:List S33) (hN1:A1.length + B1.length≤N) (hN2:A2.length + B2.length≤N) (hok:okS (P ++ A1 ++ B1 ++ A2 ++ B2 ++ Q)) (hA1:SortedW keyF A1) (hB1:SortedW keyF B1) (hA2:SortedW keyF A2) (hB2:SortedW keyF B2)
  (hl:P.length + A1.length + B1.length + A2.length + B2.length + Q.length≤4294967295) (t mid e b:Int) (h0:t=((P.length + A1.length:Nat):Int)) (h1:mid=((P.length + A1.length + B1.length:Nat):Int)) (h2:e=((P.length + A1.length + B1.length + A2.length:Nat):Int)) (h3:b=((P.length + A1.length + B1.length + A2.length + B2.length:Nat):Int)) :
  Ev (fun k=>api_File_86.j7 k (P ++ A1 ++ B1 ++ A2 ++ B2 ++ Q) (P.length:Int) b mid t e) (P ++ mergeL keyF A1 B1 ++ mergeL keyF A2 B2 ++ Q):=by
 apply Ev.step
 ·intro k;rw [api_File_86.j7]
 by_cases c:(P.length:Int) < t
 ·simp only [c,↓reduceIte]
  exact sym_j8 N ih P A1 B1 A2 B2 Q hN1 hN2 hok hA1 hB1 hA2 hB2 hl t mid e b h0 h1 h2 h3 _ (by simp only [c,true_and])
 ·simp only [c,↓reduceIte]
  exact sym_j8 N ih P A1 B1 A2 B2 Q hN1 hN2 hok hA1 hB1 hA2 hB2 hl t mid e b h0 h1 h2 h3 _ (by simp only [c,false_and,decide_false])
theorem sym_j6 (N:Nat) (ih:SymIH N) (P A1 A2 B1 B2 Q:List S33) (hN1:A1.length + B1.length≤N) (hN2:A2.length + B2.length≤N) (hok:okS (P ++ A1 ++ A2 ++ B1 ++ B2 ++ Q)) (hA1:SortedW keyF A1) (hB1:SortedW keyF B1) (hA2:SortedW keyF A2) (hB2:SortedW keyF B2)
  (hl:P.length + A1.length + B1.length + A2.length + B2.length + Q.length≤4294967295) (t m mid e b:Int) (h0:t=((P.length + A1.length:Nat):Int)) (hm:m=((P.length + A1.length + A2.length:Nat):Int)) (h1:mid=((P.length + A1.length + B1.length:Nat):Int)) (h2:e=((P.length + A1.length + B1.length + A2.length:Nat):Int)) (h3:b=((P.length + A1.length + B1.length + A2.length + B2.length:Nat):Int))
  (x:Bool) (hx:x=decide (t < m∧m < e)) :
  Ev (fun k=>api_File_86.j6 k (P ++ A1 ++ A2 ++ B1 ++ B2 ++ Q) (P.length:Int) m b mid t e x) (P ++ mergeL keyF A1 B1 ++ mergeL keyF A2 B2 ++ Q):=by
 have hok2:okS (P ++ A1 ++ B1 ++ A2 ++ B2 ++ Q):=fun z hz=>hok z (by
  simp only [List.mem_append] at hz ⊢
  rcases hz with ((((h|h)|h)|h)|h)|h <;> simp [h])
 have h7:=sym_j7 N ih P A1 B1 A2 B2 Q hN1 hN2 hok2 hA1 hB1 hA2 hB2 hl t mid e b h0 h1 h2 h3
 apply Ev.step
 ·intro k;rw [api_File_86.j6]
 by_cases c:t < m∧m < e
 ·rw [hx,decide_eq_true c]
  simp only [↓reduceIte]
  have hr:=rot_ev (P ++ A1) A2 B1 (B2 ++ Q) (by omega) (by omega) (by simp only [List.length_append];omega) t m e (by rw [List.length_append];exact h0) (by rw [List.length_append];exact hm) (by rw [List.length_append];omega)
  rw [show P ++ A1 ++ A2 ++ B1 ++ (B2 ++ Q)=P ++ A1 ++ A2 ++ B1 ++ B2 ++ Q by simp,show P ++ A1 ++ B1 ++ A2 ++ (B2 ++ Q)=P ++ A1 ++ B1 ++ A2 ++ B2 ++ Q by simp] at hr
  exact Ev.bind hr h7
 ·rw [hx,decide_eq_false c]
  simp only [Bool.false_eq_true,↓reduceIte]
  have e0:P ++ A1 ++ A2 ++ B1 ++ B2 ++ Q=P ++ A1 ++ B1 ++ A2 ++ B2 ++ Q:=by
   by_cases q:A2.length=0
   ·have:A2=[]:=List.eq_nil_of_length_eq_zero q
    rw [this]
    simp
   ·have:B1=[]:=List.eq_nil_of_length_eq_zero (by omega)
    rw [this]
    simp
  rw [e0]
  exact h7
theorem sorted_take (A:List S33) (n:Nat) (h:SortedW keyF A):SortedW keyF (A.take n):=h.sublist (List.take_sublist _ _)
theorem sorted_drop (A:List S33) (n:Nat) (h:SortedW keyF A):SortedW keyF (A.drop n):=h.sublist (List.drop_sublist _ _)

theorem sym_cut (P A B Q:List S33) (hA:2≤A.length) (hB:2≤B.length) (hsA:SortedW keyF A) (hsB:SortedW keyF B) (mid lo hi:Nat) (hmid:(P.length + (P.length + A.length + B.length)) / 2=mid)
  (hlh:if mid < P.length + A.length then lo + (P.length + A.length + B.length)=mid + (P.length + A.length)∧hi=mid else lo=P.length∧hi=P.length + A.length) :
  ∃ t,lo≤t∧t≤hi∧P.length≤t∧t≤P.length + A.length∧t≤mid∧mid≤t + B.length ∧
   (∀ c,lo≤c→c < hi→c≤mid + (P.length + A.length) - 1∧mid + (P.length + A.length) - 1 - c < (P ++ A ++ B ++ Q).length) ∧
   (∀ c,lo≤c→c < hi→(¬ ahead keyF (rd_T33 (P ++ A ++ B ++ Q) ((mid + (P.length + A.length) - 1 - c:Nat):Int)) (rd_T33 (P ++ A ++ B ++ Q) (c:Int)) ↔ c < t)) ∧
   (∀ x ∈ A.take (t - P.length),∀ y ∈ B.drop (mid - t),¬ ahead keyF y x)∧(∀ y ∈ B.take (mid - t),∀ x ∈ A.drop (t - P.length),ahead keyF y x):=by
 have hlen:(P ++ A ++ B ++ Q).length=P.length + A.length + B.length + Q.length:=by simp only [List.length_append]
 obtain ⟨m,hm⟩:∃ m,P.length + A.length=m:=⟨_,rfl⟩
 have rA:∀ c,P.length≤c→(h:c < m)→rd_T33 (P ++ A ++ B ++ Q) (c:Int)=A[c - P.length]'(by omega):=fun c h1 h2=>by
  rw [List.append_assoc (P ++ A) B Q]
  exact rd_seg P A (B ++ Q) c h1 (by omega)
 have rB:∀ c,m≤c→(h:c < m + B.length)→rd_T33 (P ++ A ++ B ++ Q) (c:Int)=B[c - m]'(by omega):=fun c h1 h2=>by
  have:=rd_seg (P ++ A) B Q c (by rw [List.length_append];omega) (by rw [List.length_append];omega)
  rw [this]
  congr 1
  rw [List.length_append,hm]
 have hrng:P.length≤lo∧hi≤m∧lo≤hi∧hi≤mid∧mid≤lo + B.length∧(∀ c,lo≤c→c < hi→m≤mid + m - 1 - c∧mid + m - 1 - c < m + B.length):=by
  rw [hm] at hlh hmid
  split at hlh
  ·refine ⟨by omega,by omega,by omega,by omega,by omega,fun c h1 h2=>⟨by omega,by omega⟩⟩
  ·refine ⟨by omega,by omega,by omega,by omega,by omega,fun c h1 h2=>⟨by omega,by omega⟩⟩
 obtain ⟨g1,g2,g3,g4,g5,g6⟩:=hrng
 rw [hm] at hlen ⊢
 obtain ⟨t,t1,t2,t3⟩:=thr_ (fun c=>¬ ahead keyF (rd_T33 (P ++ A ++ B ++ Q) ((mid + m - 1 - c:Nat):Int)) (rd_T33 (P ++ A ++ B ++ Q) (c:Int))) (fun c=>Decidable.em _) lo _ hi rfl g3 (fun c c' h1 h2 h3 hc=>by
  obtain ⟨q1,q2⟩:=g6 c (by omega) h3
  obtain ⟨q3,q4⟩:=g6 c' h1 (by omega)
  rw [rB _ q1 q2,rA c (by omega) (by omega)] at hc
  rw [rB _ q3 q4,rA c' (by omega) (by omega)]
  exact ltP_le_trans (ltP_le_trans (sorted_le A hsA _ _ _ (by omega)) hc) (sorted_le B hsB _ _ _ (by omega)))
 refine ⟨t,t1,t2,by omega,by omega,by omega,by omega,fun c h1 h2=>⟨by omega,by have:=(g6 c h1 h2).2;omega⟩,t3,?_,?_⟩
 ·intro x hx y hy hlt
  obtain ⟨i,hi1,hi2,e1⟩:=mem_take_ A _ x hx
  obtain ⟨j,hj1,hj2,e2⟩:=mem_drop_ B _ y hy
  have hlt2:lo < t:=by
   rcases Nat.lt_or_ge lo t with q|q
   ·exact q
   ·exfalso
    rw [hm] at hlh
    split at hlh <;> omega
  have hp:=(t3 (t - 1) (by omega) (by omega)).2 (by omega)
  obtain ⟨q1,q2⟩:=g6 (t - 1) (by omega) (by omega)
  rw [rB _ q1 q2,rA (t - 1) (by omega) (by omega)] at hp
  rw [← e1,← e2] at hlt
  exact ltP_le_trans (ltP_le_trans (sorted_le A hsA i (t - 1 - P.length) (by omega) (by omega)) hp) (sorted_le B hsB _ j hj1 (by omega)) hlt
 ·intro y hy x hx
  obtain ⟨j,hj1,hj2,e2⟩:=mem_take_ B _ y hy
  obtain ⟨i,hi1,hi2,e1⟩:=mem_drop_ A _ x hx
  have hlt2:t < hi:=by
   rcases Nat.lt_or_ge t hi with q|q
   ·exact q
   ·exfalso
    rw [hm] at hlh
    split at hlh <;> omega
  have hnp:ahead keyF (rd_T33 (P ++ A ++ B ++ Q) ((mid + m - 1 - t:Nat):Int)) (rd_T33 (P ++ A ++ B ++ Q) (t:Int)):=by
   rcases dec_ (rd_T33 (P ++ A ++ B ++ Q) ((mid + m - 1 - t:Nat):Int)) (rd_T33 (P ++ A ++ B ++ Q) (t:Int)) with q|q
   ·exact q
   ·exact absurd ((t3 t t1 hlt2).1 q) (Nat.lt_irrefl _)
  obtain ⟨q1,q2⟩:=g6 t t1 hlt2
  rw [rB _ q1 q2,rA t (by omega) (by omega)] at hnp
  rw [← e1,← e2]
  exact ltP_of_lt_le (ltP_of_le_lt (sorted_le B hsB j (mid + m - 1 - t - m) (by omega) (by omega)) hnp) (sorted_le A hsA _ i hi1 (by omega))
end Go.Proofs.YtmeofdpmddjbgaaDoor.G
end
section
namespace Go.Proofs.YtmeofdpmddjbgaaDoor.G
open Go.RowKit Go.Proofs.YtmeofdpmddjbgaaDoorW.PrintWords Go.Proofs.YtmeofdpmddjbgaaDoorW.PrintLast Go.Proofs.YtmeofdpmddjbgaaDoorW.PrintMore
attribute [local go_sem] max2_int min2_int max_two min_two max_three min_three max_four min_four   
set_option linter.unusedVariables false
set_option linter.unusedSimpArgs false
def api_File_68.f (l0:List S33):Option (List S33):=if l0.length < 3518437208883 then some l0 else none
set_option maxHeartbeats 4000000 in
set_option maxRecDepth 100000 in
theorem api_File_68.calls (A0:Option Addr) (c0:Nat) (l0:List S33) (r:List S33) (w:World) (hr0:Kd.C k33 w A0 l0.length l0) (hc0:l0.length≤c0) (h:api_File_68.f l0=some r) :
  Calls Tryd.prog 68 #[.slice A0 l0.length c0] w fun e w'=>∃ v0_:Value,e=.returned (v0_)∧Kd.R k33 33 w' w.heap.size (fun _=>True) v0_ r∧Below w.heap.size w w':=by
 unfold api_File_68.f at h;by_cases c:l0.length < 3518437208883
 case neg=>rw [if_neg c] at h;cases h
 rw [if_pos c] at h;obtain rfl:=Option.some.inj h;have HB:=Aside0.mk (Below.refl w.heap.size w);have LM:=Aside0.mk c;have HR:=Aside0.mk hr0;clear h c hr0
 cases A0 with
 | none =>
  have e0:l0=[]:=by
   cases l0 with
   | nil=>rfl
   | cons x l=>obtain ⟨ad,ea,_⟩:=at_T33 HR.out 0 (by decide) (by simp only [List.length_cons];omega);cases ea
  subst e0;(have hq:∀ W:World,(binOp .eql 22 (.slice none 0 c0) (.slice none 0 0)).run Tryd.prog W=.ok (.bool true) W:=fun W=>by rfl);go_enter Tryd.func68,Tryd.ntmps68;go_wp2
  exact bodyPost_ret (results_tmp (t:=2) rfl _ _ _) rfl ⟨_,rfl,Kd.R_nil _ _ _ _ _,HB.out⟩
 | some a =>
  (have hq:∀ W:World,(binOp .eql 22 (.slice (some a) l0.length c0) (.slice none 0 0)).run Tryd.prog W=.ok (.bool false) W:=fun W=>by rfl);go_enter Tryd.func68,Tryd.ntmps68
  go_wp2_with (first
   | ((with_reducible refine gate_dst (N:=5) rfl ?_);refine Kd.R_lit k33 _ 33 ?hg (N:=5) ?hd (xs:=([]:List (S33))) (inner:=[]) (ok:=fun _=>True) (okp:=fun _=>True) ?hr ?hp (fun _ hk=>hk) trivial (Below.refl _ _) (Nat.le_refl _) (by simp) ?_;(case hd=>rfl);(case hg=>rfl);(case hr=>first|(go_simp;done)|(go_simp;rfl));(case hp=>exact (Reps.none _ _));intro v5 w5 ho hb hg_ hnew_;clear hg_ hnew_;have HO:=Aside0.mk (Kd.R_lower ho (Nat.le_refl _));have HB1:=Aside0.mk hb;have HR1:=Aside0.mk (Kd.C_below HR.out hb);clear hb ho)
   | ((with_reducible refine gate_builtin (b:=.append) (xs:=#[.tmp 5,.tmp 6]) rfl ?_);at_builtin;refine Kd.R_append_rows k33 (w0:=w) w.heap.size rfl (.tmp 5) (.tmp 6) 22 33 (.agg #[(.string ⟨#[]⟩),(.int .i64 0),(.string ⟨#[]⟩)]) 40 rfl Tryd.underlying22 info33 rfl (by decide) (by omega) v5 [] l0 _ _ _ (fun _=>True) (fun _=>False) rfl rfl ?aO ?aR (fun _ _ h=>h) (fun _ h=>h.elim) ?aF ?aB ?aS ?aL ?_;(case aR=>exact HR1.out);(case aB=>exact HB1.out);(case aF=>exact (fun _ _=>trivial));(case aO=>exact HO.out);(case aS=>exact (below_size HB1.out));(case aL=>have:=LM.out;simp only [List.length_nil];omega);intro v7 w7 ho hb hg hat;rw [List.nil_append] at ho;have HO2:=Aside0.mk ho;have HB2:=Aside0.mk hb;clear ho hb hg hat))
  exact bodyPost_ret (results_tmp (t:=2) rfl _ _ _) rfl ⟨_,rfl,HO2.out,HB2.out⟩
mutual
def api_File_80.l0:Nat→List (S33)→Int→Int→Int→Int→Option ((List (S33)))
 | 0,_,_,_,_,_=>none
 | k + 1,x0,x1,x6,x7,x8=>if x8≤x1 then ((api_File_85.f k x0 x7 x8).bind fun t615=>(api_File_80.l0 k t615 x1 x6 x8 (wrap64 (x8 + x6)))) else ((api_File_85.f k x0 x7 x1).bind fun t616=>(api_File_80.l1 k t616 x1 x6))
def api_File_80.l1:Nat→List (S33)→Int→Int→Option ((List (S33)))
 | 0,_,_,_=>none
 | k + 1,x0,x1,x6=>if x6 < x1 then (api_File_80.l2 k x0 x1 x6 0 (wrap64 (2 * x6))) else (some x0)
def api_File_80.l2:Nat→List (S33)→Int→Int→Int→Int→Option ((List (S33)))
 | 0,_,_,_,_,_=>none
 | k + 1,x0,x1,x6,x7,x8=>if x8≤x1 then ((api_File_86.f k x0 x7 (wrap64 (x7 + x6)) x8).bind fun t617=>(api_File_80.l2 k t617 x1 x6 x8 (wrap64 (x8 + (wrap64 (2 * x6)))))) else (if (wrap64 (x7 + x6)) < x1 then ((api_File_86.f k x0 x7 (wrap64 (x7 + x6)) x1).bind fun t618=>(api_File_80.l1 k t618 x1 (wrap64 (x6 * 2)))) else (api_File_80.l1 k x0 x1 (wrap64 (x6 * 2))))
end
def api_File_80.f (k:Nat) (l0:List (S33)) (a1:Int)  : Option ((List (S33))):=api_File_80.l0 k l0 a1 20 0 20
set_option maxHeartbeats 8000000 in
set_option maxRecDepth 100000 in
theorem api_File_80.calls (k:Nat) (P0_:Nat→Prop) (u9000_:Value) (l0:List (S33)) (a1:Int)  (r:List (S33)) (w0 w:World) (hB:Below w0.heap.size w0 w) (ho0:Kd.R k33 33 w w0.heap.size P0_ u9000_ l0) (h:api_File_80.f k l0 a1=some r) :
  Calls Tryd.prog 80 #[u9000_,.int .i64 a1,.func (.func 70) #[] #[]] w fun e w'=>e=.returned (.tuple #[])∧Kd.R k33 33 w' w0.heap.size (fun k_=>(P0_ k_∨w.heap.size≤k_)) u9000_ r∧Below w0.heap.size w0 w'∧Kept w w' (fun k_=>P0_ k_):=by
 have HO0:=Aside0.mk (show Kd.R k33 33 w w0.heap.size (fun k_=>(P0_ k_∨w.heap.size≤k_)) u9000_ l0 from Kd.R_mono ho0 (fun k_ hk=>(.inl hk)));have HK:=Aside0.mk (Kept.refl w (fun k_=>P0_ k_));have HW0:=Aside0.mk hB.size;have HB:=Aside0.mk hB;clear hB;have H:(api_File_80.l0 k l0 a1 20 0 20)=some r:=h;clear h;have H':=Aside0.mk H;clear H;go_enter Tryd.func80,Tryd.ntmps80;go_wp2;go_loopg [7,8] k (fun kq v7 v8 w'=>∃ (x0_1:List (S33)) (x7_1:Int) (x8_1:Int),v7=.int .i64 x7_1∧v8=.int .i64 x8_1∧Aside0 (api_File_80.l0 kq x0_1 a1 20 x7_1 x8_1=some r)∧Aside0 (kq≤k)∧Aside0 (Kd.R k33 33 w' w0.heap.size (fun k_=>(P0_ k_∨w.heap.size≤k_)) u9000_ x0_1)∧Aside0 (Kept w w' (fun k_=>P0_ k_))∧Aside0 (Below w0.heap.size w0 w'))
 case atStart=>exact ⟨(l0),(0),(20),(by first|rfl|(simp;done)|(simp [*];done)),(by first|rfl|(simp;done)|(simp [*];done)),H',⟨Nat.le_refl _⟩,⟨by (with_reducible repeat (first|apply Kd.R_alloc|apply Kd.R_drewN|apply Kd.R_drew));exact HO0.out⟩,⟨by repeat (first|(with_reducible first|exact HK.out|apply Kept.alloc|apply Kept.drewN|apply Kept.drew)|exact HK.out)⟩,⟨by repeat (first|(with_reducible first|exact HB.out|apply bal|apply bdN|apply bd1)|exact HB.out)⟩⟩
 case round =>
  clear H';(try clear p2);obtain ⟨x0_1,x7_1,x8_1,rfl,rfl,HA,HK1,HO_0,HK,HB⟩:=hrel
  cases gk with
  | zero=>exact absurd HA.out (by simp [api_File_80.l0])
  | succ k1 =>
   have H:=HA.out;clear HA;simp only [api_File_80.l0] at H;by_cases c4:x8_1≤a1
   ·rw [if_pos c4] at H;have c4b0:decide (x8_1≤a1)=true:=decide_eq_true c4;clear c4;replace H:=Option.bind_eq_some_iff.mp H;obtain ⟨t615,A50,H⟩:=H;replace H:(api_File_80.l0 k1 t615 a1 20 x8_1 (wrap64 (x8_1 + 20)))=some r:=H;have A5:=Aside0.mk A50;clear A50;have H':=Aside0.mk H;clear H;obtain ⟨Ao6,co6,eo6⟩:=Kd.R_slice HO_0.out;subst eo6;go_wp2_with (first|((with_reducible refine gate_callee (f:=85) rfl ?_);refine goesL_ (some 18) rfl rfl Tryd.func85 (by kernel_rfl) rfl #[.slice Ao6 x0_1.length co6,.int .i64 x7_1,.int .i64 x8_1,.func (.func 70) #[] #[]] rfl (by (try simp only [List.map_toArray,List.map_cons,List.map_nil]);first|done|rfl|(simp only [List.length_drop,List.length_take];rfl)) ?_;(with_reducible refine (api_File_85.calls k1 (fun k_=>some k_=(.slice Ao6 x0_1.length co6:Value).ownBlock) (.slice Ao6 x0_1.length co6) x0_1 x7_1 x8_1 t615 w0 _ ?side1 ?side2 A5.out).mono ?_);(case side1=>repeat (first|(with_reducible first|exact HB.out|apply bal|apply bdN|apply bd1)|exact HB.out));(case side2=>exact Kd.R_tight rfl HO_0.out);rintro e w7 ⟨rfl,hy0,hb,hkp⟩;refine ⟨_,rfl,?_⟩;have n0_:=Aside0.mk (Kd.R_reok rfl hy0 (fun k_ e_=>HO_0.out.1 k_ e_));have n1_:=Aside0.mk (Kept.then_ (S:=(fun k_=>P0_ k_)) (by repeat (first|(with_reducible first|exact HK.out|apply Kept.alloc|apply Kept.drewN|apply Kept.drew)|exact HK.out)) hkp (fun k_ hs_=>(fun e_=>(HO_0.out.1 k_ e_.symm)) hs_));have n2_:=Aside0.mk (hb);clear HO_0;clear HK;clear HB;have HO_0:=n0_;have HK:=n1_;have HB:=n2_;clear n0_ n1_ n2_;(try clear hb);(try clear hkp);(try clear hy0)));go_roundg k1
    case measure=>have:=HK1.out;omega
    case rel=>exact ⟨(t615),(x8_1),(wrap64 (x8_1 + 20)),(by first|rfl|(simp;done)|(simp [*];done)),(by first|rfl|(simp;done)|(simp [*];done)),H',⟨by have:=HK1.out;omega⟩,⟨by (with_reducible repeat (first|apply Kd.R_alloc|apply Kd.R_drewN|apply Kd.R_drew));exact HO_0.out⟩,⟨by repeat (first|(with_reducible first|exact HK.out|apply Kept.alloc|apply Kept.drewN|apply Kept.drew)|exact HK.out)⟩,⟨by repeat (first|(with_reducible first|exact HB.out|apply bal|apply bdN|apply bd1)|exact HB.out)⟩⟩
   ·rw [if_neg c4] at H;have c4b0:decide (x8_1≤a1)=false:=decide_eq_false c4;clear c4;replace H:=Option.bind_eq_some_iff.mp H;obtain ⟨t616,A80,H⟩:=H;replace H:(api_File_80.l1 k1 t616 a1 20)=some r:=H;have A8:=Aside0.mk A80;clear A80;have H':=Aside0.mk H;clear H;obtain ⟨Ao9,co9,eo9⟩:=Kd.R_slice HO_0.out;subst eo9;go_wp2_with (first|((with_reducible refine gate_callee (f:=85) rfl ?_);refine goesL_ (some 27) rfl rfl Tryd.func85 (by kernel_rfl) rfl #[.slice Ao9 x0_1.length co9,.int .i64 x7_1,.int .i64 a1,.func (.func 70) #[] #[]] rfl (by (try simp only [List.map_toArray,List.map_cons,List.map_nil]);first|done|rfl|(simp only [List.length_drop,List.length_take];rfl)) ?_;(with_reducible refine (api_File_85.calls k1 (fun k_=>some k_=(.slice Ao9 x0_1.length co9:Value).ownBlock) (.slice Ao9 x0_1.length co9) x0_1 x7_1 a1 t616 w0 _ ?side1 ?side2 A8.out).mono ?_);(case side1=>repeat (first|(with_reducible first|exact HB.out|apply bal|apply bdN|apply bd1)|exact HB.out));(case side2=>exact Kd.R_tight rfl HO_0.out);rintro e w10 ⟨rfl,hy0,hb,hkp⟩;refine ⟨_,rfl,?_⟩;have n0_:=Aside0.mk (Kd.R_reok rfl hy0 (fun k_ e_=>HO_0.out.1 k_ e_));have n1_:=Aside0.mk (Kept.then_ (S:=(fun k_=>P0_ k_)) (by repeat (first|(with_reducible first|exact HK.out|apply Kept.alloc|apply Kept.drewN|apply Kept.drew)|exact HK.out)) hkp (fun k_ hs_=>(fun e_=>(HO_0.out.1 k_ e_.symm)) hs_));have n2_:=Aside0.mk (hb);clear HO_0;clear HK;clear HB;have HO_0:=n0_;have HK:=n1_;have HB:=n2_;clear n0_ n1_ n2_;(try clear hb);(try clear hkp);(try clear hy0)));(try simp only [Act.put,List.setIfInBounds_toArray,List.set_cons_zero,List.set_cons_succ]);go_loopg [6] k1 (fun kq v6 w'=>∃ (x0_2:List (S33)) (x6_2:Int),v6=.int .i64 x6_2∧Aside0 (api_File_80.l1 kq x0_2 a1 x6_2=some r)∧Aside0 (kq≤k1)∧Aside0 (Kd.R k33 33 w' w0.heap.size (fun k_=>(P0_ k_∨w.heap.size≤k_)) (.slice Ao9 x0_1.length co9) x0_2)∧Aside0 (Kept w w' (fun k_=>P0_ k_))∧Aside0 (Below w0.heap.size w0 w'))
    case atStart=>exact ⟨(t616),(20),(by first|rfl|(simp;done)|(simp [*];done)),H',⟨Nat.le_refl _⟩,⟨by (with_reducible repeat (first|apply Kd.R_alloc|apply Kd.R_drewN|apply Kd.R_drew));exact HO_0.out⟩,⟨by repeat (first|(with_reducible first|exact HK.out|apply Kept.alloc|apply Kept.drewN|apply Kept.drew)|exact HK.out)⟩,⟨by repeat (first|(with_reducible first|exact HB.out|apply bal|apply bdN|apply bd1)|exact HB.out)⟩⟩
    case round =>
     clear H';(try clear p2);(try clear c4);(try clear c4b0);(try clear p6);(try clear c8);(try clear p2);obtain ⟨x0_2,x6_2,rfl,HA,HK2,HO_0,HK,HB⟩:=hrel;have hl0_2:=(Kd.R_reads' HO_0.out).1;rw [hl0_2] at HO_0;(try simp only [hl0_2])
     cases gk with
     | zero=>exact absurd HA.out (by simp [api_File_80.l1])
     | succ k2 =>
      have H:=HA.out;clear HA;simp only [api_File_80.l1] at H;by_cases c11:x6_2 < a1
      ·rw [if_pos c11] at H;have c11b0:decide (x6_2 < a1)=true:=decide_eq_true c11;clear c11;have H':=Aside0.mk H;clear H;go_wp2;go_loopg [7,8] k2 (fun kq v7 v8 w'=>∃ (x0_3:List (S33)) (x7_3:Int) (x8_3:Int),v7=.int .i64 x7_3∧v8=.int .i64 x8_3∧Aside0 (api_File_80.l2 kq x0_3 a1 x6_2 x7_3 x8_3=some r)∧Aside0 (kq≤k2)∧Aside0 (Kd.R k33 33 w' w0.heap.size (fun k_=>(P0_ k_∨w.heap.size≤k_)) (.slice Ao9 x0_2.length co9) x0_3)∧Aside0 (Kept w w' (fun k_=>P0_ k_))∧Aside0 (Below w0.heap.size w0 w'))
       case atStart=>exact ⟨(x0_2),(0),(wrap64 (2 * x6_2)),(by first|rfl|(simp;done)|(simp [*];done)),(by first|rfl|(simp;done)|(simp [*];done)),H',⟨Nat.le_refl _⟩,⟨by (try simp only [hl0_2]);(with_reducible repeat (first|apply Kd.R_alloc|apply Kd.R_drewN|apply Kd.R_drew));exact HO_0.out⟩,⟨by repeat (first|(with_reducible first|exact HK.out|apply Kept.alloc|apply Kept.drewN|apply Kept.drew)|exact HK.out)⟩,⟨by repeat (first|(with_reducible first|exact HB.out|apply bal|apply bdN|apply bd1)|exact HB.out)⟩⟩
       case round =>
        clear H';(try clear c1);(try clear p2);(try clear c4);(try clear c4b0);(try clear p6);(try clear c8);(try clear c11);(try clear c11b0);(try clear p2);(try clear p6);obtain ⟨x0_3,x7_3,x8_3,rfl,rfl,HA,HK3,HO_0,HK,HB⟩:=hrel;have hl0_3:=(Kd.R_reads' HO_0.out).1;rw [hl0_3] at HO_0;(try simp only [hl0_3])
        cases gk with
        | zero=>exact absurd HA.out (by simp [api_File_80.l2])
        | succ k3 =>
         have H:=HA.out;clear HA;simp only [api_File_80.l2] at H;by_cases c12:x8_3≤a1
         ·rw [if_pos c12] at H;have c12b0:decide (x8_3≤a1)=true:=decide_eq_true c12;clear c12;replace H:=Option.bind_eq_some_iff.mp H;obtain ⟨t617,A130,H⟩:=H;replace H:(api_File_80.l2 k3 t617 a1 x6_2 x8_3 (wrap64 (x8_3 + (wrap64 (2 * x6_2)))))=some r:=H;have A13:=Aside0.mk A130;clear A130;have H':=Aside0.mk H;clear H;go_wp2_with (first|((with_reducible refine gate_callee (f:=86) rfl ?_);refine goesL_ (some 43) rfl rfl Tryd.func86 (by kernel_rfl) rfl #[.slice Ao9 x0_3.length co9,.int .i64 x7_3,.int .i64 (wrap64 (x7_3 + x6_2)),.int .i64 x8_3,.func (.func 70) #[] #[]] rfl (by (try simp only [List.map_toArray,List.map_cons,List.map_nil]);first|done|rfl|(simp only [List.length_drop,List.length_take];rfl)) ?_;(with_reducible refine (api_File_86.calls k3 (fun k_=>some k_=(.slice Ao9 x0_3.length co9:Value).ownBlock) (.slice Ao9 x0_3.length co9) x0_3 x7_3 (wrap64 (x7_3 + x6_2)) x8_3 t617 w0 _ ?side1 ?side2 A13.out).mono ?_);(case side1=>repeat (first|(with_reducible first|exact HB.out|apply bal|apply bdN|apply bd1)|exact HB.out));(case side2=>exact Kd.R_tight rfl HO_0.out);rintro e w14 ⟨rfl,hy0,hb,hkp⟩;refine ⟨_,rfl,?_⟩;have n0_:=Aside0.mk (Kd.R_reok rfl hy0 (fun k_ e_=>HO_0.out.1 k_ e_));have n1_:=Aside0.mk (Kept.then_ (S:=(fun k_=>P0_ k_)) (by repeat (first|(with_reducible first|exact HK.out|apply Kept.alloc|apply Kept.drewN|apply Kept.drew)|exact HK.out)) hkp (fun k_ hs_=>(fun e_=>(HO_0.out.1 k_ e_.symm)) hs_));have n2_:=Aside0.mk (hb);clear HO_0;clear HK;clear HB;have HO_0:=n0_;have HK:=n1_;have HB:=n2_;clear n0_ n1_ n2_;(try clear hb);(try clear hkp);(try clear hy0)));(try simp only [← hl0_3]);go_roundg k3
          case measure=>have:=HK1.out;have:=HK2.out;have:=HK3.out;omega
          case rel=>exact ⟨(t617),(x8_3),(wrap64 (x8_3 + (wrap64 (2 * x6_2)))),(by first|rfl|(simp;done)|(simp [*];done)),(by first|rfl|(simp;done)|(simp [*];done)),H',⟨by have:=HK1.out;have:=HK2.out;have:=HK3.out;omega⟩,⟨by (try simp only [hl0_2]);(try simp only [hl0_3]);(with_reducible repeat (first|apply Kd.R_alloc|apply Kd.R_drewN|apply Kd.R_drew));exact HO_0.out⟩,⟨by repeat (first|(with_reducible first|exact HK.out|apply Kept.alloc|apply Kept.drewN|apply Kept.drew)|exact HK.out)⟩,⟨by repeat (first|(with_reducible first|exact HB.out|apply bal|apply bdN|apply bd1)|exact HB.out)⟩⟩
         ·rw [if_neg c12] at H;have c12b0:decide (x8_3≤a1)=false:=decide_eq_false c12;clear c12;by_cases c15:(wrap64 (x7_3 + x6_2)) < a1
          ·rw [if_pos c15] at H;have c15b0:decide ((wrap64 (x7_3 + x6_2)) < a1)=true:=decide_eq_true c15;clear c15;replace H:=Option.bind_eq_some_iff.mp H;obtain ⟨t618,A160,H⟩:=H;replace H:(api_File_80.l1 k3 t618 a1 (wrap64 (x6_2 * 2)))=some r:=H;have A16:=Aside0.mk A160;clear A160;have H':=Aside0.mk H;clear H;go_wp2_with (first|((with_reducible refine gate_callee (f:=86) rfl ?_);refine goesL_ (some 60) rfl rfl Tryd.func86 (by kernel_rfl) rfl #[.slice Ao9 x0_3.length co9,.int .i64 x7_3,.int .i64 (wrap64 (x7_3 + x6_2)),.int .i64 a1,.func (.func 70) #[] #[]] rfl (by (try simp only [List.map_toArray,List.map_cons,List.map_nil]);first|done|rfl|(simp only [List.length_drop,List.length_take];rfl)) ?_;(with_reducible refine (api_File_86.calls k3 (fun k_=>some k_=(.slice Ao9 x0_3.length co9:Value).ownBlock) (.slice Ao9 x0_3.length co9) x0_3 x7_3 (wrap64 (x7_3 + x6_2)) a1 t618 w0 _ ?side1 ?side2 A16.out).mono ?_);(case side1=>repeat (first|(with_reducible first|exact HB.out|apply bal|apply bdN|apply bd1)|exact HB.out));(case side2=>exact Kd.R_tight rfl HO_0.out);rintro e w17 ⟨rfl,hy0,hb,hkp⟩;refine ⟨_,rfl,?_⟩;have n0_:=Aside0.mk (Kd.R_reok rfl hy0 (fun k_ e_=>HO_0.out.1 k_ e_));have n1_:=Aside0.mk (Kept.then_ (S:=(fun k_=>P0_ k_)) (by repeat (first|(with_reducible first|exact HK.out|apply Kept.alloc|apply Kept.drewN|apply Kept.drew)|exact HK.out)) hkp (fun k_ hs_=>(fun e_=>(HO_0.out.1 k_ e_.symm)) hs_));have n2_:=Aside0.mk (hb);clear HO_0;clear HK;clear HB;have HO_0:=n0_;have HK:=n1_;have HB:=n2_;clear n0_ n1_ n2_;(try clear hb);(try clear hkp);(try clear hy0)));(try simp only [← hl0_2,← hl0_3]);go_roundg k3
           case measure=>have:=HK1.out;have:=HK2.out;have:=HK3.out;omega
           case rel=>exact ⟨(t618),(wrap64 (x6_2 * 2)),(by first|rfl|(simp;done)|(simp [*];done)),H',⟨by have:=HK1.out;have:=HK2.out;have:=HK3.out;omega⟩,⟨by (try simp only [hl0_2]);(try simp only [hl0_3]);(with_reducible repeat (first|apply Kd.R_alloc|apply Kd.R_drewN|apply Kd.R_drew));exact HO_0.out⟩,⟨by repeat (first|(with_reducible first|exact HK.out|apply Kept.alloc|apply Kept.drewN|apply Kept.drew)|exact HK.out)⟩,⟨by repeat (first|(with_reducible first|exact HB.out|apply bal|apply bdN|apply bd1)|exact HB.out)⟩⟩
          ·rw [if_neg c15] at H;have c15b0:decide ((wrap64 (x7_3 + x6_2)) < a1)=false:=decide_eq_false c15;clear c15;have H':=Aside0.mk H;clear H;go_wp2;(try simp only [← hl0_2,← hl0_3]);go_roundg k3
           case measure=>have:=HK1.out;have:=HK2.out;have:=HK3.out;omega
           case rel=>exact ⟨(x0_3),(wrap64 (x6_2 * 2)),(by first|rfl|(simp;done)|(simp [*];done)),H',⟨by have:=HK1.out;have:=HK2.out;have:=HK3.out;omega⟩,⟨by (try simp only [hl0_2]);(try simp only [hl0_3]);(with_reducible repeat (first|apply Kd.R_alloc|apply Kd.R_drewN|apply Kd.R_drew));exact HO_0.out⟩,⟨by repeat (first|(with_reducible first|exact HK.out|apply Kept.alloc|apply Kept.drewN|apply Kept.drew)|exact HK.out)⟩,⟨by repeat (first|(with_reducible first|exact HB.out|apply bal|apply bdN|apply bd1)|exact HB.out)⟩⟩
      ·rw [if_neg c11] at H;have c11b0:decide (x6_2 < a1)=false:=decide_eq_false c11;clear c11;obtain rfl:=Option.some.inj H;go_wp2;(first|go_end0|((try simp only [Exit.inBlock,Exit.then]);refine bodyPost_ret (results_none rfl _ _ _) rfl ?_));exact ⟨by first|rfl|(simp [errW_none,errW_some] <;> rfl)|(simp [*,errW_none,errW_some] <;> rfl),(by first|exact (by (with_reducible repeat (first|apply Kd.R_alloc|apply Kd.R_drewN|apply Kd.R_drew));exact HO_0.out)|(simp only [hl0_2];exact (by (with_reducible repeat (first|apply Kd.R_alloc|apply Kd.R_drewN|apply Kd.R_drew));exact HO_0.out))),by repeat (first|(with_reducible first|exact HB.out|apply bal|apply bdN|apply bd1)|exact HB.out),by repeat (first|(with_reducible first|exact HK.out|apply Kept.alloc|apply Kept.drewN|apply Kept.drew)|exact HK.out)⟩
def api_File_69.f (k:Nat) (l0:List (S33))  : Option ((List (S33))):=(api_File_80.f k l0 (l0.length:Int)).bind fun t619=>(some t619)
set_option maxHeartbeats 8000000 in
set_option maxRecDepth 100000 in
theorem api_File_69.calls (k:Nat) (P0_:Nat→Prop) (u9000_:Value) (l0:List (S33))  (r:List (S33)) (w0 w:World) (hB:Below w0.heap.size w0 w) (ho0:Kd.R k33 33 w w0.heap.size P0_ u9000_ l0) (h:api_File_69.f k l0=some r) :
  Calls Tryd.prog 69 #[u9000_,.func (.func 70) #[] #[]] w fun e w'=>e=.returned (.tuple #[])∧Kd.R k33 33 w' w0.heap.size (fun k_=>(P0_ k_∨w.heap.size≤k_)) u9000_ r∧Below w0.heap.size w0 w'∧Kept w w' (fun k_=>P0_ k_):=by
 have HO0:=Aside0.mk (show Kd.R k33 33 w w0.heap.size (fun k_=>(P0_ k_∨w.heap.size≤k_)) u9000_ l0 from Kd.R_mono ho0 (fun k_ hk=>(.inl hk)));have HK:=Aside0.mk (Kept.refl w (fun k_=>P0_ k_));have HW0:=Aside0.mk hB.size;have HB:=Aside0.mk hB;clear hB;have H:((api_File_80.f k l0 (l0.length:Int)).bind fun t619=>(some t619))=some r:=h;clear h;replace H:=Option.bind_eq_some_iff.mp H;obtain ⟨t619,A30,H⟩:=H;replace H:(some t619)=some r:=H;have A3:=Aside0.mk A30;clear A30;obtain rfl:=Option.some.inj H;obtain ⟨Ao4,co4,eo4⟩:=Kd.R_slice HO0.out;subst eo4;go_enter Tryd.func69,Tryd.ntmps69;go_wp2_with (first|((with_reducible refine gate_callee (f:=80) rfl ?_);refine goesL_ (some 8) rfl rfl Tryd.func80 (by kernel_rfl) rfl #[.slice Ao4 l0.length co4,.int .i64 (l0.length:Int),.func (.func 70) #[] #[]] rfl (by (try simp only [List.map_toArray,List.map_cons,List.map_nil]);first|done|rfl|(simp only [List.length_drop,List.length_take];rfl)) ?_;(with_reducible refine (api_File_80.calls k (fun k_=>some k_=(.slice Ao4 l0.length co4:Value).ownBlock) (.slice Ao4 l0.length co4) l0 (l0.length:Int) t619 w0 _ ?side1 ?side2 A3.out).mono ?_);(case side1=>repeat (first|(with_reducible first|exact HB.out|apply bal|apply bdN|apply bd1)|exact HB.out));(case side2=>exact Kd.R_tight rfl HO0.out);rintro e w5 ⟨rfl,hy0,hb,hkp⟩;refine ⟨_,rfl,?_⟩;have n0_:=Aside0.mk (Kd.R_reok rfl hy0 (fun k_ e_=>HO0.out.1 k_ e_));have n1_:=Aside0.mk (Kept.then_ (S:=(fun k_=>P0_ k_)) (by repeat (first|(with_reducible first|exact HK.out|apply Kept.alloc|apply Kept.drewN|apply Kept.drew)|exact HK.out)) hkp (fun k_ hs_=>(fun e_=>(HO0.out.1 k_ e_.symm)) hs_));have n2_:=Aside0.mk (hb);clear HO0;clear HK;clear HB;have HO0:=n0_;have HK:=n1_;have HB:=n2_;clear n0_ n1_ n2_;(try clear hb);(try clear hkp);(try clear hy0)));(first|go_end0|((try simp only [Exit.inBlock,Exit.then]);refine bodyPost_ret (results_none rfl _ _ _) rfl ?_));exact ⟨by first|rfl|(simp [errW_none,errW_some] <;> rfl)|(simp [*,errW_none,errW_some] <;> rfl),by (with_reducible repeat (first|apply Kd.R_alloc|apply Kd.R_drewN|apply Kd.R_drew));exact HO0.out,by repeat (first|(with_reducible first|exact HB.out|apply bal|apply bdN|apply bd1)|exact HB.out),by repeat (first|(with_reducible first|exact HK.out|apply Kept.alloc|apply Kept.drewN|apply Kept.drew)|exact HK.out)⟩
def tree_Sort.f (k:Nat) (l0:List (S33)):Option ((List (S33))):=(api_File_68.f l0).bind fun t620=>((api_File_69.f k t620).bind fun t623=>(some t623))
set_option maxHeartbeats 8000000 in
set_option maxRecDepth 100000 in
theorem tree_Sort.calls (k:Nat) (A0:Option Addr) (c0:Nat) (l0:List (S33)) (r:List (S33)) (w:World) (hr0:Kd.C k33 w A0 l0.length l0) (hc0:l0.length≤c0) (h:tree_Sort.f k l0=some r) :
  Calls Tryd.prog 48 #[.slice A0 l0.length c0] w fun e w'=>∃ v0_:Value,e=.returned (v0_)∧Kd.R k33 33 w' w.heap.size (fun _=>True) v0_ r∧Below w.heap.size w w':=by
 have HR0:=Aside0.mk hr0;have HC0:=Aside0.mk hc0;clear hr0 hc0;have HB:=Aside0.mk (Below.refl w.heap.size w);have H:((api_File_68.f l0).bind fun t620=>((api_File_69.f k t620).bind fun t623=>(some t623)))=some r:=h;clear h;replace H:=Option.bind_eq_some_iff.mp H;obtain ⟨t620,A20,H⟩:=H;replace H:((api_File_69.f k t620).bind fun t623=>(some t623))=some r:=H;have A2:=Aside0.mk A20;clear A20;replace H:=Option.bind_eq_some_iff.mp H;obtain ⟨t623,A30,H⟩:=H;replace H:(some t623)=some r:=H;have A3:=Aside0.mk A30;clear A30;obtain rfl:=Option.some.inj H;go_enter Tryd.func48,Tryd.ntmps48;go_wp2_with (first|((with_reducible refine gate_callee (f:=68) rfl ?_);refine goesL_ (some 5) rfl rfl Tryd.func68 (by kernel_rfl) rfl #[.slice A0 l0.length c0] rfl (by (try simp only [List.map_toArray,List.map_cons,List.map_nil]);first|done|rfl|(simp only [List.length_drop,List.length_take];rfl)) ?_;(with_reducible refine (api_File_68.calls _ _ l0 t620 _ ?side1 ?side2 A2.out).mono ?_);(case side1=>repeat (first|exact HR0.out|(with_reducible refine Kd.C_alloc ?_ _)|(with_reducible refine Kd.C_drewN ?_ _)|(with_reducible refine Kd.C_drew ?_)));(case side2=>exact HC0.out);rintro e w4 ⟨v621,rfl,ho0,hb⟩;refine ⟨_,rfl,?_⟩;have n0_:=Aside0.mk (Kd.R_lower ho0 (below_size (by repeat (first|(with_reducible first|exact HB.out|apply bal|apply bdN|apply bd1)|exact HB.out))));have n1_:=Aside0.mk (below_step (by repeat (first|(with_reducible first|exact HB.out|apply bal|apply bdN|apply bd1)|exact HB.out)) hb);clear HB;have HO622:=n0_;have HB:=n1_;clear n0_ n1_;(try clear hb);(try clear hb2);(try clear hk);(try clear hi);(try clear ho0);obtain ⟨Ao5,co5,eo5⟩:=Kd.R_slice HO622.out;subst eo5)|((with_reducible refine gate_callee (f:=69) rfl ?_);refine goesL_ (some 7) rfl rfl Tryd.func69 (by kernel_rfl) rfl #[.slice Ao5 t620.length co5,.func (.func 70) #[] #[]] rfl (by (try simp only [List.map_toArray,List.map_cons,List.map_nil]);first|done|rfl|(simp only [List.length_drop,List.length_take];rfl)) ?_;(with_reducible refine (api_File_69.calls k (fun k_=>some k_=(.slice Ao5 t620.length co5:Value).ownBlock) (.slice Ao5 t620.length co5) t620 t623 w _ ?side1 ?side2 A3.out).mono ?_);(case side1=>repeat (first|(with_reducible first|exact HB.out|apply bal|apply bdN|apply bd1)|exact HB.out));(case side2=>exact Kd.R_tight rfl HO622.out);rintro e w6 ⟨rfl,hy0,hb,hkp⟩;refine ⟨_,rfl,?_⟩;have n0_:=Aside0.mk (Kd.R_reok rfl hy0 (fun k_ e_=>HO622.out.1 k_ e_));have n1_:=Aside0.mk (hb);clear HO622;clear HB;have HO622:=n0_;have HB:=n1_;clear n0_ n1_;(try clear hb);(try clear hkp);(try clear hy0)));go_ret;exact ⟨_,by first|rfl|(simp [errW_none,errW_some] <;> rfl)|(simp [*,errW_none,errW_some] <;> rfl),by (with_reducible repeat (first|apply Kd.R_alloc|apply Kd.R_drewN|apply Kd.R_drew));exact HO622.out,by repeat (first|(with_reducible first|exact HB.out|apply bal|apply bdN|apply bd1)|exact HB.out)⟩
end Go.Proofs.YtmeofdpmddjbgaaDoor.G
end
section
namespace Go.Proofs.YtmeofdpmddjbgaaDoor.G
open Go.RowKit Go.Proofs.YtmeofdpmddjbgaaDoorW.PrintWords Go.Proofs.YtmeofdpmddjbgaaDoorW.PrintLast Go.Proofs.YtmeofdpmddjbgaaDoorW.PrintMore
set_option linter.unusedVariables false
set_option linter.unusedSimpArgs false
theorem sym_step (N:Nat) (ih:SymIH N):SymIH (N + 1):=by
 intro P A B Q hN hA hB hok hsA hsB hl
 have hlen:(P ++ A ++ B ++ Q).length=P.length + A.length + B.length + Q.length:=by simp only [List.length_append]
 by_cases c1:A.length=1
 ·obtain ⟨x,rfl⟩:=List.length_eq_one_iff.1 c1
  rw [List.length_singleton] at hl hN ⊢
  have:=sym_one_l P B Q x hB (by rw [show P ++ (x :: B) ++ Q=P ++ [x] ++ B ++ Q by simp];exact hok) hsB (by omega)
  rw [show P ++ (x :: B) ++ Q=P ++ [x] ++ B ++ Q by simp] at this
  apply Ev.step
  ·intro k;rw [api_File_86.f]
  have e1:wrap64 (((P.length + 1:Nat):Int) - (P.length:Int))=1:=by rw [w64n_ _ (by omega) (by omega)];omega
  simp only [e1,↓reduceIte]
  exact this
 ·have e1:wrap64 (((P.length + A.length:Nat):Int) - (P.length:Int))=(A.length:Int):=by rw [w64n_ _ (by omega) (by omega)];omega
  have d1:¬ (A.length:Int)=1:=by clear e1;omega
  by_cases c2:B.length=1
  ·obtain ⟨x,rfl⟩:=List.length_eq_one_iff.1 c2
   have:=sym_one_r P A Q x hA (by rw [show P ++ A ++ (x :: Q)=P ++ A ++ [x] ++ Q by simp];exact hok) hsA (by clear e1;rw [List.length_singleton] at hl;exact hl)
   rw [show P ++ A ++ (x :: Q)=P ++ A ++ [x] ++ Q by simp] at this
   apply Ev.step
   ·intro k;rw [api_File_86.f]
   have e2:wrap64 (((P.length + A.length + [x].length:Nat):Int) - ((P.length + A.length:Nat):Int))=1:=by clear e1;rw [List.length_singleton,w64n_ _ (by omega) (by omega)];omega
   simp only [e1,d1,e2,↓reduceIte]
   exact this
  ·have hA2:2≤A.length:=by clear e1 d1;omega
   have hB2:2≤B.length:=by clear e1 d1;omega
   have e2:wrap64 (((P.length + A.length + B.length:Nat):Int) - ((P.length + A.length:Nat):Int))=(B.length:Int):=by clear e1 d1;rw [w64n_ _ (by omega) (by omega)];omega
   have d2:¬ (B.length:Int)=1:=by clear e1 e2;omega
   obtain ⟨mid,hmid⟩:∃ mid,(P.length + (P.length + A.length + B.length)) / 2=mid:=⟨_,rfl⟩
   have e3:=half_ P.length (P.length + A.length + B.length) (by clear e1 e2;omega)
   rw [hmid] at e3
   have e4:wrap64 ((mid:Int) + ((P.length + A.length:Nat):Int))=((mid + (P.length + A.length):Nat):Int):=by clear e1 e2 e3;rw [w64n_ _ (by omega) (by omega)];omega
   have e5:wrap64 (((mid + (P.length + A.length):Nat):Int) - 1)=((mid + (P.length + A.length) - 1:Nat):Int):=by clear e1 e2 e3 e4;rw [w64n_ _ (by omega) (by omega)];omega
   have fin:∀ lo hi:Nat,(if mid < P.length + A.length then lo + (P.length + A.length + B.length)=mid + (P.length + A.length)∧hi=mid else lo=P.length∧hi=P.length + A.length) →
     Ev (fun k=>api_File_86.j4 k (P ++ A ++ B ++ Q) (P.length:Int) ((P.length + A.length:Nat):Int) ((P.length + A.length + B.length:Nat):Int) (mid:Int) ((mid + (P.length + A.length):Nat):Int) (lo:Int) (hi:Int)) (P ++ mergeL keyF A B ++ Q):=by
    intro lo hi hlh
    clear e1 e2 e3 e4
    obtain ⟨t,t1,t2,t3,t4,t5,t6,t7,t8,t9,t10⟩:=sym_cut P A B Q hA2 hB2 hsA hsB mid lo hi hmid hlh
    apply Ev.step
    ·intro k;rw [api_File_86.j4]
    rw [e5]
    clear e5
    have hhi:hi≤P.length + A.length:=by split at hlh <;> omega
    refine sym_l4 _ (by rw [hlen];exact hl) hok P.length (P.length + A.length) (P.length + A.length + B.length) mid t (mid + (P.length + A.length)) (mid + (P.length + A.length) - 1) (by omega) _ _ ?_ _ lo hi rfl t1 t2 (by rw [hlen];omega) t7 t8
    have hms:=mergeL_split keyF _ (A.take (t - P.length)) (A.drop (t - P.length)) (B.take (mid - t)) (B.drop (mid - t)) rfl t9 t10
    rw [List.take_append_drop,List.take_append_drop] at hms
    have l1:(A.take (t - P.length)).length=t - P.length:=by rw [List.length_take];omega
    have l2:(A.drop (t - P.length)).length=A.length - (t - P.length):=List.length_drop ..
    have l3:(B.take (mid - t)).length=mid - t:=by rw [List.length_take];omega
    have l4:(B.drop (mid - t)).length=B.length - (mid - t):=List.length_drop ..
    have eD:P ++ A.take (t - P.length) ++ A.drop (t - P.length) ++ B.take (mid - t) ++ B.drop (mid - t) ++ Q=P ++ A ++ B ++ Q:=by
     rw [List.append_assoc P,List.take_append_drop,List.append_assoc (P ++ A),List.take_append_drop]
    have h6:=fun x hx=>sym_j6 N ih P (A.take (t - P.length)) (A.drop (t - P.length)) (B.take (mid - t)) (B.drop (mid - t)) Q (by omega) (by omega) (by rw [eD];exact hok) (sorted_take A _ hsA) (sorted_take B _ hsB) (sorted_drop A _ hsA) (sorted_drop B _ hsB) (by omega)
     (t:Int) ((P.length + A.length:Nat):Int) (mid:Int) ((mid + (P.length + A.length) - t:Nat):Int) ((P.length + A.length + B.length:Nat):Int) (by omega) (by omega) (by omega) (by omega) (by omega) x hx
    rw [eD] at h6
    rw [hms,show P ++ (mergeL keyF (A.take (t - P.length)) (B.take (mid - t)) ++ mergeL keyF (A.drop (t - P.length)) (B.drop (mid - t))) ++ Q=P ++ mergeL keyF (A.take (t - P.length)) (B.take (mid - t)) ++ mergeL keyF (A.drop (t - P.length)) (B.drop (mid - t)) ++ Q by simp]
    clear l1 l2 l3 l4
    have e6:wrap64 (((mid + (P.length + A.length):Nat):Int) - (t:Int))=((mid + (P.length + A.length) - t:Nat):Int):=by rw [w64n_ _ (by omega) (by omega)];omega
    rw [e6]
    by_cases q:(t:Int) < ((P.length + A.length:Nat):Int)
    ·simp only [q,↓reduceIte]
     exact h6 _ (by simp only [q,true_and])
    ·simp only [q,↓reduceIte]
     exact h6 _ (by simp only [q,false_and,decide_false])
   apply Ev.step
   ·intro k;rw [api_File_86.f]
   simp only [e1,d1,e2,d2,e3,e4,↓reduceIte]
   clear e1 d1 e2 d2 e3 e4 e5
   by_cases q:((P.length + A.length:Nat):Int) > (mid:Int)
   ·simp only [q,↓reduceIte]
    have hq:mid < P.length + A.length:=by omega
    have e7:wrap64 (((mid + (P.length + A.length):Nat):Int) - ((P.length + A.length + B.length:Nat):Int))=((mid + (P.length + A.length) - (P.length + A.length + B.length):Nat):Int):=by rw [w64n_ _ (by omega) (by omega)];omega
    rw [e7]
    clear e7
    exact fin _ _ (by rw [if_pos hq];omega)
   ·simp only [q,↓reduceIte]
    have hq:¬ mid < P.length + A.length:=by omega
    exact fin _ _ (by rw [if_neg hq];omega)
theorem sym_ev:∀ N,SymIH N
 | 0=>fun P A B Q hN hA hB _ _ _ _=>by omega
 | N + 1=>sym_step N (sym_ev N)
theorem sortK_mem_ (z:S33) (l:List S33) (h:z ∈ sortK keyF l):z ∈ l:=by
 rcases fold_mem l [] z h with e|e
 ·cases e
 ·exact e
theorem okS_sub {l m:List S33} (h:okS l) (hs:∀ z ∈ m,z ∈ l):okS m:=fun z hz=>h z (hs z hz)
theorem parts_mem (bs:Nat) (h0:0 < bs) (z:S33):∀ (n:Nat) (l:List S33),l.length≤n→z ∈ parts keyF bs l→z ∈ l
 | n,l,hn,h=>by
  by_cases c:l.length≤bs
  ·rw [parts_short keyF bs l c] at h
   exact sortK_mem_ z l h
  ·match n with
   | 0=>omega
   | n + 1 =>
    rw [parts_long keyF bs l h0 (by omega)] at h
    rcases List.mem_append.1 h with e|e
    ·exact List.mem_of_mem_take (sortK_mem_ z _ e)
    ·exact List.mem_of_mem_drop (parts_mem bs h0 z n (l.drop bs) (by rw [List.length_drop];omega) e)
theorem stb_l0 (bs:Nat) (hbs:0 < bs) (hb2:bs≤4000000) (nn:Nat) (hn:nn≤1000000) (r:List S33):∀ (d:Nat) (P R:List S33),R.length≤d→nn=P.length + R.length→okS R →
  Ev (fun k=>api_File_80.l1 k (P ++ parts keyF bs R) (nn:Int) (bs:Int)) r→Ev (fun k=>api_File_80.l0 k (P ++ R) (nn:Int) (bs:Int) (P.length:Int) ((P.length + bs:Nat):Int)) r:=by
 intro d
 induction d with
 | zero =>
  intro P R hd hnn hok h
  have e:R=[]:=List.eq_nil_of_length_eq_zero (by omega)
  subst e
  rw [List.length_nil] at hnn
  apply Ev.step
  ·intro k;rw [api_File_80.l0]
  have c1:¬ (((P.length + bs:Nat):Int)≤(nn:Int)):=by omega
  simp only [c1,↓reduceIte]
  have hi:=ins_ev P [] [] (fun z hz=>by cases hz) (by rw [List.length_nil];omega)
  have hnn2:nn=P.length:=by omega
  subst hnn2
  simp only [List.length_nil,Nat.add_zero,List.append_nil] at hi ⊢
  rw [parts_short keyF bs [] (by simp)] at h
  rw [show sortK keyF ([]:List S33)=[] from rfl] at h hi
  rw [List.append_nil] at h hi
  exact Ev.bind hi h
 | succ d ih =>
  intro P R hd hnn hok h
  apply Ev.step
  ·intro k;rw [api_File_80.l0]
  by_cases c:bs≤R.length
  ·have c1:(((P.length + bs:Nat):Int)≤(nn:Int)):=by omega
   have l1:(R.take bs).length=bs:=by rw [List.length_take];omega
   have l2:(R.drop bs).length=R.length - bs:=List.length_drop ..
   have hi:=ins_ev P (R.take bs) (R.drop bs) (okS_sub hok (fun z hz=>List.mem_of_mem_take hz)) (by omega)
   rw [l1,List.append_assoc,List.take_append_drop] at hi
   have l3:(P ++ sortK keyF (R.take bs)).length=P.length + bs:=by rw [List.length_append,sortK_length_,l1]
   have g:=ih (P ++ sortK keyF (R.take bs)) (R.drop bs) (by omega) (by omega) (okS_sub hok (fun z hz=>List.mem_of_mem_drop hz)) (by
    rw [parts_long keyF bs R hbs c,← List.append_assoc] at h
    exact h)
   rw [l3] at g
   have hw:wrap64 (((P.length + bs:Nat):Int) + (bs:Int))=((P.length + bs + bs:Nat):Int):=by rw [w64n_ _ (by omega) (by omega)];omega
   simp only [c1,hw,↓reduceIte]
   exact Ev.bind hi g
  ·have c1:¬ (((P.length + bs:Nat):Int)≤(nn:Int)):=by omega
   have hi:=ins_ev P R [] hok (by rw [List.length_nil];omega)
   rw [List.append_nil,List.append_nil,← hnn] at hi
   simp only [c1,↓reduceIte]
   rw [parts_short keyF bs R (by omega)] at h
   exact Ev.bind hi h
theorem stb_l2 (bs:Nat) (hbs:0 < bs) (hb2:bs≤2000000) (nn:Nat) (hn:nn≤1000000) (r:List S33):∀ (d:Nat) (P R:List S33),R.length≤d→nn=P.length + R.length→okS (P ++ R) →
  Ev (fun k=>api_File_80.l1 k (P ++ parts keyF (bs + bs) R) (nn:Int) ((bs + bs:Nat):Int)) r→Ev (fun k=>api_File_80.l2 k (P ++ parts keyF bs R) (nn:Int) (bs:Int) (P.length:Int) ((P.length + (bs + bs):Nat):Int)) r:=by
 intro d
 induction d with
 | zero =>
  intro P R hd hnn hok h
  have e:R=[]:=List.eq_nil_of_length_eq_zero (by omega)
  subst e
  rw [List.length_nil] at hnn
  rw [parts_short keyF _ [] (by simp)] at h ⊢
  apply Ev.step
  ·intro k;rw [api_File_80.l2]
  have c1:¬ (((P.length + (bs + bs):Nat):Int)≤(nn:Int)):=by omega
  have c2:¬ (((P.length + bs:Nat):Int) < (nn:Int)):=by omega
  have hw:wrap64 ((P.length:Int) + (bs:Int))=((P.length + bs:Nat):Int):=by rw [w64n_ _ (by omega) (by omega)];omega
  have hw2:wrap64 ((bs:Int) * 2)=((bs + bs:Nat):Int):=by clear hw;rw [w64n_ _ (by omega) (by omega)];omega
  simp only [c1,c2,hw,hw2,↓reduceIte]
  exact h
 | succ d ih =>
  intro P R hd hnn hok h
  have okP:okS P:=okS_sub hok (fun z hz=>List.mem_append_left _ hz)
  have okR:okS R:=okS_sub hok (fun z hz=>List.mem_append_right _ hz)
  apply Ev.step
  ·intro k;rw [api_File_80.l2]
  by_cases c:bs + bs≤R.length
  ·have l1:(R.take bs).length=bs:=by rw [List.length_take];omega
   have l2:((R.drop bs).take bs).length=bs:=by rw [List.length_take,List.length_drop];omega
   have l3:(R.drop (bs + bs)).length=R.length - (bs + bs):=List.length_drop ..
   have e0:parts keyF bs R=sortK keyF (R.take bs) ++ sortK keyF ((R.drop bs).take bs) ++ parts keyF bs (R.drop (bs + bs)):=by
    rw [parts_long keyF bs R hbs (by omega),parts_long keyF bs (R.drop bs) hbs (by rw [List.length_drop];omega),List.drop_drop,List.append_assoc]
   have e1:R.take bs ++ (R.drop bs).take bs=R.take (bs + bs):=(List.take_add ..).symm
   have pl:=parts_length keyF bs hbs _ (R.drop (bs + bs)) (Nat.le_refl _)
   have hs:=sym_ev _ P (sortK keyF (R.take bs)) (sortK keyF ((R.drop bs).take bs)) (parts keyF bs (R.drop (bs + bs))) (Nat.le_refl _) (by rw [sortK_length_];omega) (by rw [sortK_length_];omega)
    (okS_app (okS_app (okS_app okP (okS_sub okR (fun z hz=>List.mem_of_mem_take (sortK_mem_ z _ hz)))) (okS_sub okR (fun z hz=>List.mem_of_mem_drop (List.mem_of_mem_take (sortK_mem_ z _ hz))))) (okS_sub okR (fun z hz=>List.mem_of_mem_drop (parts_mem bs hbs z _ _ (Nat.le_refl _) hz))))
    (sortK_sortedW keyF _) (sortK_sortedW keyF _) (by rw [sortK_length_,sortK_length_,pl];omega)
   rw [sortK_length_,sortK_length_,l1,l2,← sortK_append,e1,List.append_assoc P,List.append_assoc P,← e0] at hs
   have l4:(P ++ sortK keyF (R.take (bs + bs))).length=P.length + (bs + bs):=by rw [List.length_append,sortK_length_,List.length_take];omega
   have g:=ih (P ++ sortK keyF (R.take (bs + bs))) (R.drop (bs + bs)) (by omega) (by omega) (okS_app (okS_app okP (okS_sub okR (fun z hz=>List.mem_of_mem_take (sortK_mem_ z _ hz)))) (okS_sub okR (fun z hz=>List.mem_of_mem_drop hz))) (by
    rw [parts_long keyF (bs + bs) R (by omega) c,← List.append_assoc] at h
    exact h)
   rw [l4] at g
   have c1:(((P.length + (bs + bs):Nat):Int)≤(nn:Int)):=by omega
   have hcast:((P.length + bs + bs:Nat):Int)=((P.length + (bs + bs):Nat):Int):=by omega
   rw [hcast] at hs
   clear l1 l2 l3 l4 e0 e1 pl
   have hw:wrap64 ((P.length:Int) + (bs:Int))=((P.length + bs:Nat):Int):=by rw [w64n_ _ (by omega) (by omega)];omega
   have hw2:wrap64 (2 * (bs:Int))=((bs + bs:Nat):Int):=by clear hw;rw [w64n_ _ (by omega) (by omega)];omega
   have hw3:wrap64 (((P.length + (bs + bs):Nat):Int) + ((bs + bs:Nat):Int))=((P.length + (bs + bs) + (bs + bs):Nat):Int):=by clear hw hw2;rw [w64n_ _ (by omega) (by omega)];omega
   simp only [c1,hw,hw2,hw3,↓reduceIte]
   exact Ev.bind hs g
  ·have c1:¬ (((P.length + (bs + bs):Nat):Int)≤(nn:Int)):=by omega
   rw [parts_short keyF (bs + bs) R (by omega)] at h
   by_cases c3:bs < R.length
   ·have l1:(R.take bs).length=bs:=by rw [List.length_take];omega
    have l2:(R.drop bs).length=R.length - bs:=List.length_drop ..
    have e0:parts keyF bs R=sortK keyF (R.take bs) ++ sortK keyF (R.drop bs):=by
     rw [parts_long keyF bs R hbs (by omega),parts_short keyF bs (R.drop bs) (by omega)]
    have hs:=sym_ev _ P (sortK keyF (R.take bs)) (sortK keyF (R.drop bs)) [] (Nat.le_refl _) (by rw [sortK_length_];omega) (by rw [sortK_length_];omega)
     (okS_app (okS_app (okS_app okP (okS_sub okR (fun z hz=>List.mem_of_mem_take (sortK_mem_ z _ hz)))) (okS_sub okR (fun z hz=>List.mem_of_mem_drop (sortK_mem_ z _ hz)))) (fun z hz=>by cases hz))
     (sortK_sortedW keyF _) (sortK_sortedW keyF _) (by rw [sortK_length_,sortK_length_,List.length_nil];omega)
    rw [sortK_length_,sortK_length_,l1,l2,← sortK_append,List.take_append_drop,List.append_nil,List.append_nil,List.append_assoc P,← e0] at hs
    have c2:(((P.length + bs:Nat):Int) < (nn:Int)):=by omega
    have hcast:((P.length + bs + (R.length - bs):Nat):Int)=(nn:Int):=by omega
    rw [hcast] at hs
    clear l1 l2 e0
    have hw:wrap64 ((P.length:Int) + (bs:Int))=((P.length + bs:Nat):Int):=by rw [w64n_ _ (by omega) (by omega)];omega
    have hw2:wrap64 ((bs:Int) * 2)=((bs + bs:Nat):Int):=by clear hw;rw [w64n_ _ (by omega) (by omega)];omega
    simp only [c1,c2,hw,hw2,↓reduceIte]
    exact Ev.bind hs h
   ·have c2:¬ (((P.length + bs:Nat):Int) < (nn:Int)):=by omega
    rw [parts_short keyF bs R (by omega)]
    have hw:wrap64 ((P.length:Int) + (bs:Int))=((P.length + bs:Nat):Int):=by rw [w64n_ _ (by omega) (by omega)];omega
    have hw2:wrap64 ((bs:Int) * 2)=((bs + bs:Nat):Int):=by clear hw;rw [w64n_ _ (by omega) (by omega)];omega
    simp only [c1,c2,hw,hw2,↓reduceIte]
    exact h
theorem stb_l1 (L:List S33) (hn:L.length≤1000000) (hok:okS L):∀ (d bs:Nat),L.length - bs≤d→0 < bs→bs≤2000000 →
  Ev (fun k=>api_File_80.l1 k (parts keyF bs L) (L.length:Int) (bs:Int)) (sortK keyF L):=by
 intro d
 induction d with
 | zero =>
  intro bs hd h0 h1
  apply Ev.step
  ·intro k;rw [api_File_80.l1]
  have c1:¬ ((bs:Int) < (L.length:Int)):=by omega
  simp only [c1,↓reduceIte]
  rw [parts_short keyF bs L (by omega)]
  exact Ev.now _
 | succ d ih =>
  intro bs hd h0 h1
  apply Ev.step
  ·intro k;rw [api_File_80.l1]
  by_cases c:bs < L.length
  ·have c1:((bs:Int) < (L.length:Int)):=by omega
   have g:=stb_l2 bs h0 h1 L.length hn (sortK keyF L) L.length [] L (Nat.le_refl _) (by rw [List.length_nil];omega) hok (ih (bs + bs) (by omega) (by omega) (by omega))
   rw [List.nil_append,List.length_nil,Nat.zero_add] at g
   have hw2:wrap64 (2 * (bs:Int))=((bs + bs:Nat):Int):=by rw [w64n_ _ (by omega) (by omega)];omega
   simp only [c1,hw2,↓reduceIte]
   exact g
  ·have c1:¬ ((bs:Int) < (L.length:Int)):=by omega
   simp only [c1,↓reduceIte]
   rw [parts_short keyF bs L (by omega)]
   exact Ev.now _
theorem treesort_ev (L:List S33) (hn:L.length≤1000000) (hok:okS L):Ev (fun k=>tree_Sort.f k L) (sortK keyF L):=by
 unfold tree_Sort.f api_File_68.f api_File_69.f
 have c1:L.length < 3518437208883:=by omega
 simp only [c1,↓reduceIte,Option.bind_some]
 have h:Ev (fun k=>api_File_80.f k L (L.length:Int)) (sortK keyF L):=by
  unfold api_File_80.f
  have:=stb_l0 20 (by decide) (by decide) L.length hn (sortK keyF L) L.length [] L (Nat.le_refl _) (by rw [List.length_nil];omega) hok (by
   rw [List.nil_append]
   exact stb_l1 L hn hok L.length 20 (by omega) (by decide) (by decide))
  exact this
 exact Ev.bind (Ev.bind h (Ev.now _)) (Ev.now _)
end Go.Proofs.YtmeofdpmddjbgaaDoor.G
end
section
namespace Go.Proofs.YtmeofdpmddjbgaaDoor.G
open Go.RowKit Go.Proofs.YtmeofdpmddjbgaaDoorW.PrintWords Go.Proofs.YtmeofdpmddjbgaaDoorW.PrintLast Go.Proofs.YtmeofdpmddjbgaaDoorW.PrintMore
attribute [local go_sem] max2_int min2_int max_two min_two max_three min_three max_four min_four   
set_option linter.unusedVariables false
set_option linter.unusedSimpArgs false
def tree_Find_1.f (k:Nat) (a0_0:ByteArray) (a0_1:Int) (a0_2:ByteArray) (a1:ByteArray):Option (Int):=(tree_Order.f k a0_0 a1).bind fun t428=>(some t428)
set_option maxHeartbeats 8000000 in
set_option maxRecDepth 100000 in
theorem tree_Find_1.calls (k:Nat) (a0_0:ByteArray) (a0_1:Int) (a0_2:ByteArray) (a1:ByteArray) (r:Int) (w:World) (h:tree_Find_1.f k a0_0 a0_1 a0_2 a1=some r) :
  Calls Tryd.prog 67 #[.agg #[.string a0_0,.int .i64 a0_1,.string a0_2],.string a1] w fun e w'=>e=.returned (.int .i64 r)∧Below w.heap.size w w':=by
 have hu33:=Tryd.underlying33;have HB:=Aside0.mk (Below.refl w.heap.size w);have H:((tree_Order.f k a0_0 a1).bind fun t428=>(some t428))=some r:=h;clear h;replace H:=Option.bind_eq_some_iff.mp H;obtain ⟨t428,A30,H⟩:=H;replace H:(some t428)=some r:=H;have A3:=Aside0.mk A30;clear A30;obtain rfl:=Option.some.inj H;go_enter Tryd.func67,Tryd.ntmps67;go_wp2_with (first|((with_reducible refine gate_dst (N:=2) rfl ?_);refine box_event ?hg (N:=2) ?hd (cs:=#[.string a0_0,.int .i64 a0_1,.string a0_2]) (t:=33) ?hr ?_;(case hd=>rfl);(case hg=>rfl);(case hr=>first|(go_simp;done)|(go_simp;rfl));intro gb427 hg w4 hbox hb;have n0_:=Aside0.mk (below_step (by repeat (first|(with_reducible first|exact HB.out|apply bal|apply bdN|apply bd1)|exact HB.out)) hb);have n1_:=Aside0.mk (hbox);have n2_:=Aside0.mk ((by rw [hg];exact (below_size (by repeat (first|(with_reducible first|exact HB.out|apply bal|apply bdN|apply bd1)|exact HB.out))):w.heap.size≤gb427));have n3_:=Aside0.mk ((by rw [hg];exact (below_size (by repeat (first|(with_reducible first|exact HB.out|apply bal|apply bdN|apply bd1)|exact HB.out))):w.heap.size≤gb427));clear HB;have HB:=n0_;have BK427:=n1_;have GW427:=n2_;have GE427:=n3_;clear n0_ n1_ n2_ n3_;clear hb hbox hg;have hcz5_0:w4.cell? ⟨gb427,0,none⟩=some (.string a0_0):=(blk_cell BK427.out 0).trans rfl;have hcz5_1:w4.cell? ⟨gb427,1,none⟩=some (.int .i64 a0_1):=(blk_cell BK427.out 1).trans rfl;have hcz5_2:w4.cell? ⟨gb427,2,none⟩=some (.string a0_2):=(blk_cell BK427.out 2).trans rfl;have hfz5_0:=blk_frozen BK427.out 0;have hfz5_1:=blk_frozen BK427.out 1;have hfz5_2:=blk_frozen BK427.out 2)|((with_reducible refine gate_callee (f:=63) rfl ?_);refine goesL_ (some 8) rfl rfl Tryd.func63 (by kernel_rfl) rfl #[.string a0_0,.string a1] rfl (by (try simp only [List.map_toArray,List.map_cons,List.map_nil]);first|done|rfl|(simp only [List.length_drop,List.length_take];rfl)) ?_;(with_reducible refine (tree_Order.calls k a0_0 a1 t428 _ A3.out).mono ?_);rintro e w6 ⟨rfl,hb⟩;refine ⟨_,rfl,?_⟩;have n0_:=Aside0.mk (blk_below (g:=gb427) (o:=.cells #[.string a0_0,.int .i64 a0_1,.string a0_2] 33 (0,0)) (by (with_reducible repeat (first|refine blk_drewN ?_ _|refine blk_drew ?_|refine blk_alloc ?_ _));exact BK427.out) hb);have n1_:=Aside0.mk (below_step (by repeat (first|(with_reducible first|exact HB.out|apply bal|apply bdN|apply bd1|refine below_set ?_ GE427.out)|exact HB.out)) hb);clear BK427;clear HB;have BK427:=n0_;have HB:=n1_;clear n0_ n1_;(try clear hb);(try clear hb2);(try clear hk);(try clear hi)));go_ret;exact ⟨by first|rfl|(simp [errW_none,errW_some] <;> rfl)|(simp [*,errW_none,errW_some] <;> rfl),by repeat (first|(with_reducible first|exact HB.out|apply bal|apply bdN|apply bd1|refine below_set ?_ GE427.out)|exact HB.out)⟩
def api_File_string.l0:Nat→List (S33)→ByteArray→Int→Int→Int→Option (Int × Bool)
 | 0,_,_,_,_,_=>none
 | k + 1,x0,x1,x8,x9,x10=>if x9 < x10 then (if 0≤(wrap64 ((IntKind.u64.wrap (wrap64 (x9 + x10))) / 2)) then (if (wrap64 ((IntKind.u64.wrap (wrap64 (x9 + x10))) / 2)) < (x0.length:Int) then ((tree_Find_1.f k ((rd_T33 x0 (wrap64 ((IntKind.u64.wrap (wrap64 (x9 + x10))) / 2))).f0) ((rd_T33 x0 (wrap64 ((IntKind.u64.wrap (wrap64 (x9 + x10))) / 2))).f1) ((rd_T33 x0 (wrap64 ((IntKind.u64.wrap (wrap64 (x9 + x10))) / 2))).f2) x1).bind fun t430=>(if t430 < 0 then (api_File_string.l0 k x0 x1 x8 (wrap64 ((wrap64 ((IntKind.u64.wrap (wrap64 (x9 + x10))) / 2)) + 1)) x10) else (api_File_string.l0 k x0 x1 x8 x9 (wrap64 ((IntKind.u64.wrap (wrap64 (x9 + x10))) / 2))))) else (none)) else (none)) else (if x9 < x8 then (if 0≤x9 then (if x9 < (x0.length:Int) then ((tree_Find_1.f k ((rd_T33 x0 x9).f0) ((rd_T33 x0 x9).f1) ((rd_T33 x0 x9).f2) x1).bind fun t432=>(some (x9,(t432 == 0)))) else (none)) else (none)) else (some (x9,false)))
def api_File_string.f (k:Nat) (l0:List (S33)) (a1:ByteArray)  : Option (Int × Bool):=api_File_string.l0 k l0 a1 (l0.length:Int) 0 (l0.length:Int)
set_option maxHeartbeats 8000000 in
set_option maxRecDepth 100000 in
theorem api_File_string.calls (k:Nat) (A0:Option Addr) (c0:Nat) (l0:List (S33)) (a1:ByteArray)  (r1:Int) (r2:Bool) (w:World) (hr0:Kd.C k33 w A0 l0.length l0) (hc0:l0.length≤c0) (h:api_File_string.f k l0 a1=some (r1,r2)) :
  Calls Tryd.prog 66 #[.slice A0 l0.length c0,.string a1,.func (.func 67) #[] #[]] w fun e w'=>e=.returned (.tuple #[.int .i64 r1,.bool r2])∧Below w.heap.size w w':=by
 have hu33:=Tryd.underlying33;have HR0:=Aside0.mk hr0;have HC0:=Aside0.mk hc0;clear hr0 hc0;have HB:=Aside0.mk (Below.refl w.heap.size w);have H:(api_File_string.l0 k l0 a1 (l0.length:Int) 0 (l0.length:Int))=some (r1,r2):=h;clear h;have H':=Aside0.mk H;clear H;go_enter Tryd.func66,Tryd.ntmps66;go_wp2;go_loopg [9,10] k (fun kq v9 v10 w'=>∃ (x9_1:Int) (x10_1:Int),v9=.int .i64 x9_1∧v10=.int .i64 x10_1∧Aside0 (api_File_string.l0 kq l0 a1 (l0.length:Int) x9_1 x10_1=some (r1,r2))∧Aside0 (kq≤k)∧Aside0 (Below w.heap.size w w'))
 case atStart=>exact ⟨(0),((l0.length:Int)),(by first|rfl|(simp;done)|(simp [*];done)),(by first|rfl|(simp;done)|(simp [*];done)),H',⟨Nat.le_refl _⟩,⟨by repeat (first|(with_reducible first|exact HB.out|apply bal|apply bdN|apply bd1)|exact HB.out)⟩⟩
 case round =>
  clear H';(try clear p2);obtain ⟨x9_1,x10_1,rfl,rfl,HA,HK1,HB⟩:=hrel
  cases gk with
  | zero=>exact absurd HA.out (by simp [api_File_string.l0])
  | succ k1 =>
   have H:=HA.out;clear HA;simp only [api_File_string.l0] at H;by_cases c4:x9_1 < x10_1
   ·rw [if_pos c4] at H;have c4b0:decide (x9_1 < x10_1)=true:=decide_eq_true c4;clear c4;obtain ⟨ji5,hji5⟩:∃ j_:Int,(wrap64 ((IntKind.u64.wrap (wrap64 (x9_1 + x10_1))) / 2))=j_:=⟨_,rfl⟩;(replace H:(if 0≤(ji5) then (if (ji5) < (l0.length:Int) then ((tree_Find_1.f k1 ((rd_T33 l0 (ji5)).f0) ((rd_T33 l0 (ji5)).f1) ((rd_T33 l0 (ji5)).f2) a1).bind fun t430=>(if t430 < 0 then (api_File_string.l0 k1 l0 a1 (l0.length:Int) (wrap64 ((ji5) + 1)) x10_1) else (api_File_string.l0 k1 l0 a1 (l0.length:Int) x9_1 ji5))) else (none)) else (none))=some (r1,r2):=by first|(rw [hji5] at H;exact H)|(simp only [hji5] at H ⊢;exact H));have hji5w:(IntKind.i64.wrap ((IntKind.u64.wrap (wrap64 (x9_1 + x10_1))) / 2))=ji5:=(i64_w _).trans hji5;by_cases c6:0≤(ji5)
    ·rw [if_pos c6] at H;have c6b0:decide (0≤(ji5))=true:=decide_eq_true c6;clear c6;by_cases c7:(ji5) < (l0.length:Int)
     ·rw [if_pos c7] at H;have c7b0:decide ((ji5) < (l0.length:Int))=true:=decide_eq_true c7;clear c7;replace H:=Option.bind_eq_some_iff.mp H;obtain ⟨t430,A80,H⟩:=H;replace H:(if t430 < 0 then (api_File_string.l0 k1 l0 a1 (l0.length:Int) (wrap64 ((ji5) + 1)) x10_1) else (api_File_string.l0 k1 l0 a1 (l0.length:Int) x9_1 ji5))=some (r1,r2):=H;have A8:=Aside0.mk A80;clear A80;by_cases c9:t430 < 0
      ·rw [if_pos c9] at H;have c9b0:decide (t430 < 0)=true:=decide_eq_true c9;clear c9;have H':=Aside0.mk H;clear H;have p429:0≤((ji5):Int):=of_decide_eq_true (by first|(with_reducible assumption)|assumption);have q429:(ji5) < (l0.length:Int):=of_decide_eq_true (by first|(with_reducible assumption)|assumption);obtain ⟨ad429,e429,hx429_0,hx429_1,hx429_2⟩:=at_T33 HR0.out (ji5) p429 q429;cases e429;replace hx429_0:=(HB.out.cell (World.block_lt_of_cell? w _ hx429_0)).trans hx429_0;replace hx429_1:=(HB.out.cell (World.block_lt_of_cell? w _ hx429_1)).trans hx429_1;replace hx429_2:=(HB.out.cell (World.block_lt_of_cell? w _ hx429_2)).trans hx429_2;replace p429:=eq_true p429;replace q429:=eq_true q429;go_wp2_with (first|((with_reducible refine Go.Proofs.YtmeofdpmddjbgaaDoor.Fnv.gate_ rfl ?_);refine Go.Proofs.YtmeofdpmddjbgaaDoor.Fnv.goesL_ _ (some 30) rfl rfl Tryd.func67 (by kernel_rfl) rfl #[.agg #[.string ((rd_T33 l0 (ji5)).f0),.int .i64 ((rd_T33 l0 (ji5)).f1),.string ((rd_T33 l0 (ji5)).f2)],.string a1] rfl (by (try simp only [List.map_toArray,List.map_cons,List.map_nil]);first|done|(simp only [hji5];rfl)|rfl|(simp only [List.length_drop,List.length_take];rfl)) (by rfl) ?_;(with_reducible refine (tree_Find_1.calls k1 ((rd_T33 l0 (ji5)).f0) ((rd_T33 l0 (ji5)).f1) ((rd_T33 l0 (ji5)).f2) a1 t430 _ A8.out).mono ?_);rintro e w10 ⟨rfl,hb⟩;refine ⟨_,rfl,?_⟩;have n0_:=Aside0.mk (below_step (by repeat (first|(with_reducible first|exact HB.out|apply bal|apply bdN|apply bd1)|exact HB.out)) hb);clear HB;have HB:=n0_;clear n0_;(try clear hb);(try clear hb2);(try clear hk);(try clear hi)));go_roundg k1
       case measure=>have:=HK1.out;omega
       case rel=>exact ⟨(wrap64 ((ji5) + 1)),(x10_1),(by first|rfl|(simp;done)|(simp only [← hji5] <;> (first|rfl|simp))|(simp [*];done)),(by first|rfl|(simp;done)|(simp [*];done)),H',⟨by have:=HK1.out;omega⟩,⟨by repeat (first|(with_reducible first|exact HB.out|apply bal|apply bdN|apply bd1)|exact HB.out)⟩⟩
      ·rw [if_neg c9] at H;have c9b0:decide (t430 < 0)=false:=decide_eq_false c9;clear c9;have H':=Aside0.mk H;clear H;have p429:0≤((ji5):Int):=of_decide_eq_true (by first|(with_reducible assumption)|assumption);have q429:(ji5) < (l0.length:Int):=of_decide_eq_true (by first|(with_reducible assumption)|assumption);obtain ⟨ad429,e429,hx429_0,hx429_1,hx429_2⟩:=at_T33 HR0.out (ji5) p429 q429;cases e429;replace hx429_0:=(HB.out.cell (World.block_lt_of_cell? w _ hx429_0)).trans hx429_0;replace hx429_1:=(HB.out.cell (World.block_lt_of_cell? w _ hx429_1)).trans hx429_1;replace hx429_2:=(HB.out.cell (World.block_lt_of_cell? w _ hx429_2)).trans hx429_2;replace p429:=eq_true p429;replace q429:=eq_true q429;go_wp2_with (first|((with_reducible refine Go.Proofs.YtmeofdpmddjbgaaDoor.Fnv.gate_ rfl ?_);refine Go.Proofs.YtmeofdpmddjbgaaDoor.Fnv.goesL_ _ (some 30) rfl rfl Tryd.func67 (by kernel_rfl) rfl #[.agg #[.string ((rd_T33 l0 (ji5)).f0),.int .i64 ((rd_T33 l0 (ji5)).f1),.string ((rd_T33 l0 (ji5)).f2)],.string a1] rfl (by (try simp only [List.map_toArray,List.map_cons,List.map_nil]);first|done|(simp only [hji5];rfl)|rfl|(simp only [List.length_drop,List.length_take];rfl)) (by rfl) ?_;(with_reducible refine (tree_Find_1.calls k1 ((rd_T33 l0 (ji5)).f0) ((rd_T33 l0 (ji5)).f1) ((rd_T33 l0 (ji5)).f2) a1 t430 _ A8.out).mono ?_);rintro e w11 ⟨rfl,hb⟩;refine ⟨_,rfl,?_⟩;have n0_:=Aside0.mk (below_step (by repeat (first|(with_reducible first|exact HB.out|apply bal|apply bdN|apply bd1)|exact HB.out)) hb);clear HB;have HB:=n0_;clear n0_;(try clear hb);(try clear hb2);(try clear hk);(try clear hi)));go_roundg k1
       case measure=>have:=HK1.out;omega
       case rel=>exact ⟨(x9_1),(ji5),(by first|rfl|(simp;done)|(simp [*];done)),(by first|rfl|(simp;done)|(simp only [← hji5] <;> (first|rfl|simp))|(simp [*];done)),H',⟨by have:=HK1.out;omega⟩,⟨by repeat (first|(with_reducible first|exact HB.out|apply bal|apply bdN|apply bd1)|exact HB.out)⟩⟩
     ·rw [if_neg c7] at H;exact absurd H (by simp)
    ·rw [if_neg c6] at H;exact absurd H (by simp)
   ·rw [if_neg c4] at H;have c4b0:decide (x9_1 < x10_1)=false:=decide_eq_false c4;clear c4;by_cases c12:x9_1 < (l0.length:Int)
    ·rw [if_pos c12] at H;have c12b0:decide (x9_1 < (l0.length:Int))=true:=decide_eq_true c12;clear c12;by_cases c13:0≤x9_1
     ·rw [if_pos c13] at H;have c13b0:decide (0≤x9_1)=true:=decide_eq_true c13;clear c13;by_cases c14:x9_1 < (l0.length:Int)
      ·rw [if_pos c14] at H;have c14b0:decide (x9_1 < (l0.length:Int))=true:=decide_eq_true c14;clear c14;replace H:=Option.bind_eq_some_iff.mp H;obtain ⟨t432,A150,H⟩:=H;replace H:(some (x9_1,(t432 == 0)))=some (r1,r2):=H;have A15:=Aside0.mk A150;clear A150;simp only [Option.some.injEq,Prod.mk.injEq] at H;obtain ⟨rfl,rfl⟩:=H;have p431:0≤(x9_1:Int):=of_decide_eq_true (by first|(with_reducible assumption)|assumption);have q431:x9_1 < (l0.length:Int):=of_decide_eq_true (by first|(with_reducible assumption)|assumption);obtain ⟨ad431,e431,hx431_0,hx431_1,hx431_2⟩:=at_T33 HR0.out x9_1 p431 q431;cases e431;replace hx431_0:=(HB.out.cell (World.block_lt_of_cell? w _ hx431_0)).trans hx431_0;replace hx431_1:=(HB.out.cell (World.block_lt_of_cell? w _ hx431_1)).trans hx431_1;replace hx431_2:=(HB.out.cell (World.block_lt_of_cell? w _ hx431_2)).trans hx431_2;replace p431:=eq_true p431;replace q431:=eq_true q431;go_wp2_with (first|(go_at_call 67;(with_reducible refine (tree_Find_1.calls k1 ((rd_T33 l0 x9_1).f0) ((rd_T33 l0 x9_1).f1) ((rd_T33 l0 x9_1).f2) a1 t432 _ A15.out).mono ?_);rintro e w16 ⟨rfl,hb⟩;have n0_:=Aside0.mk (below_step (by repeat (first|(with_reducible first|exact HB.out|apply bal|apply bdN|apply bd1)|exact HB.out)) hb);clear HB;have HB:=n0_;clear n0_;(try clear hb);(try clear hb2);(try clear hk);(try clear hi)));go_ret2;exact ⟨by first|rfl|(simp [errW_none,errW_some] <;> rfl)|(simp [*,errW_none,errW_some] <;> rfl),by repeat (first|(with_reducible first|exact HB.out|apply bal|apply bdN|apply bd1)|exact HB.out)⟩
      ·rw [if_neg c14] at H;exact absurd H (by simp)
     ·rw [if_neg c13] at H;exact absurd H (by simp)
    ·rw [if_neg c12] at H;have c12b0:decide (x9_1 < (l0.length:Int))=false:=decide_eq_false c12;clear c12;simp only [Option.some.injEq,Prod.mk.injEq] at H;obtain ⟨rfl,rfl⟩:=H;go_wp2;go_ret2;exact ⟨by first|rfl|(simp [errW_none,errW_some] <;> rfl)|(simp [*,errW_none,errW_some] <;> rfl),by repeat (first|(with_reducible first|exact HB.out|apply bal|apply bdN|apply bd1)|exact HB.out)⟩
def tree_Find.f (k:Nat) (l0:List (S33)) (a1:ByteArray):Option (Int):=(api_File_string.f k l0 a1).bind fun bt433=>(if bt433.2=true then (some bt433.1) else (some (-1)))
set_option maxHeartbeats 8000000 in
set_option maxRecDepth 100000 in
theorem tree_Find.calls (k:Nat) (A0:Option Addr) (c0:Nat) (l0:List (S33)) (a1:ByteArray) (r:Int) (w:World) (hr0:Kd.C k33 w A0 l0.length l0) (hc0:l0.length≤c0) (h:tree_Find.f k l0 a1=some r) :
  Calls Tryd.prog 47 #[.slice A0 l0.length c0,.string a1] w fun e w'=>e=.returned (.int .i64 r)∧Below w.heap.size w w':=by
 have HR0:=Aside0.mk hr0;have HC0:=Aside0.mk hc0;clear hr0 hc0;have HB:=Aside0.mk (Below.refl w.heap.size w);have H:((api_File_string.f k l0 a1).bind fun bt433=>(if bt433.2=true then (some bt433.1) else (some (-1))))=some r:=h;clear h;replace H:=Option.bind_eq_some_iff.mp H;obtain ⟨⟨t433,t434⟩,A30,H⟩:=H;replace H:(if t434=true then (some t433) else (some (-1)))=some r:=H;have A3:=Aside0.mk A30;clear A30;by_cases c4:t434=true
 ·subst c4;(have H1:(some t433)=some r:=by rw [if_pos rfl] at H;exact H);clear H;have H:=H1;clear H1;obtain rfl:=Option.some.inj H;go_enter Tryd.func47,Tryd.ntmps47;go_wp2_with (first|((with_reducible refine gate_callee (f:=66) rfl ?_);refine goesL_ (some 10) rfl rfl Tryd.func66 (by kernel_rfl) rfl #[.slice A0 l0.length c0,.string a1,.func (.func 67) #[] #[]] rfl (by (try simp only [List.map_toArray,List.map_cons,List.map_nil]);first|done|rfl|(simp only [List.length_drop,List.length_take];rfl)) ?_;(with_reducible refine (api_File_string.calls k _ _ l0 a1 t433 true _ ?side1 ?side2 A3.out).mono ?_);(case side1=>repeat (first|exact HR0.out|(with_reducible refine Kd.C_alloc ?_ _)|(with_reducible refine Kd.C_drewN ?_ _)|(with_reducible refine Kd.C_drew ?_)));(case side2=>exact HC0.out);rintro e w5 ⟨rfl,hb⟩;refine ⟨_,rfl,?_⟩;have n0_:=Aside0.mk (below_step (by repeat (first|(with_reducible first|exact HB.out|apply bal|apply bdN|apply bd1)|exact HB.out)) hb);clear HB;have HB:=n0_;clear n0_;(try clear hb);(try clear hb2);(try clear hk);(try clear hi)));go_ret;exact ⟨by first|rfl|(simp [errW_none,errW_some] <;> rfl)|(simp [*,errW_none,errW_some] <;> rfl),by repeat (first|(with_reducible first|exact HB.out|apply bal|apply bdN|apply bd1)|exact HB.out)⟩
 ·replace c4:=Bool.eq_false_iff.mpr c4;subst c4;(have H1:(some (-1))=some r:=by rw [if_neg (show ¬ (false=true) by decide)] at H;exact H);clear H;have H:=H1;clear H1;obtain rfl:=Option.some.inj H;go_enter Tryd.func47,Tryd.ntmps47;go_wp2_with (first|((with_reducible refine gate_callee (f:=66) rfl ?_);refine goesL_ (some 10) rfl rfl Tryd.func66 (by kernel_rfl) rfl #[.slice A0 l0.length c0,.string a1,.func (.func 67) #[] #[]] rfl (by (try simp only [List.map_toArray,List.map_cons,List.map_nil]);first|done|rfl|(simp only [List.length_drop,List.length_take];rfl)) ?_;(with_reducible refine (api_File_string.calls k _ _ l0 a1 t433 false _ ?side1 ?side2 A3.out).mono ?_);(case side1=>repeat (first|exact HR0.out|(with_reducible refine Kd.C_alloc ?_ _)|(with_reducible refine Kd.C_drewN ?_ _)|(with_reducible refine Kd.C_drew ?_)));(case side2=>exact HC0.out);rintro e w6 ⟨rfl,hb⟩;refine ⟨_,rfl,?_⟩;have n0_:=Aside0.mk (below_step (by repeat (first|(with_reducible first|exact HB.out|apply bal|apply bdN|apply bd1)|exact HB.out)) hb);clear HB;have HB:=n0_;clear n0_;(try clear hb);(try clear hb2);(try clear hk);(try clear hi)));go_ret;exact ⟨by first|rfl|(simp [errW_none,errW_some] <;> rfl)|(simp [*,errW_none,errW_some] <;> rfl),by repeat (first|(with_reducible first|exact HB.out|apply bal|apply bdN|apply bd1)|exact HB.out)⟩
def image_Put.f (k:Nat) (a0:ByteArray) (a1_0:ByteArray) (a1_1:Int) (a1_2:ByteArray):Option (ByteArray × Int):=(image_Tree.f k a0).bind fun bt625=>(if bt625.2=0 then ((tree_Find.f k bt625.1 a1_0).bind fun t629=>(if t629 ≥ 0 then (if 0≤t629 then (if t629 < (bt625.1.length:Int) then ((image_Of.f k (bt625.1.set (t629:Int).toNat (⟨a1_0,a1_1,a1_2⟩:S33))).bind fun bt631=>(some (bt631.1,bt631.2))) else (none)) else (none)) else (if bt625.1.length < 3518437208883 then ((tree_Sort.f k (bt625.1 ++ [(⟨a1_0,a1_1,a1_2⟩:S33)])).bind fun t636=>((image_Of.f k t636).bind fun bt639=>(some (bt639.1,bt639.2)))) else (none)))) else (some ((⟨#[]⟩:ByteArray),bt625.2)))
set_option maxHeartbeats 8000000 in
set_option maxRecDepth 100000 in
theorem image_Put.calls (k:Nat) (a0:ByteArray) (a1_0:ByteArray) (a1_1:Int) (a1_2:ByteArray) (r1:ByteArray) (r2:Int) (w:World) (h:image_Put.f k a0 a1_0 a1_1 a1_2=some (r1,r2)) :
  Calls Tryd.prog 25 #[.string a0,.agg #[.string a1_0,.int .i64 a1_1,.string a1_2]] w fun e w'=>e=.returned (.tuple #[.string r1,.int .i64 r2])∧Below w.heap.size w w':=by
 have hu33:=Tryd.underlying33;have HB:=Aside0.mk (Below.refl w.heap.size w);have H:((image_Tree.f k a0).bind fun bt625=>(if bt625.2=0 then ((tree_Find.f k bt625.1 a1_0).bind fun t629=>(if t629 ≥ 0 then (if 0≤t629 then (if t629 < (bt625.1.length:Int) then ((image_Of.f k (bt625.1.set (t629:Int).toNat (⟨a1_0,a1_1,a1_2⟩:S33))).bind fun bt631=>(some (bt631.1,bt631.2))) else (none)) else (none)) else (if bt625.1.length < 3518437208883 then ((tree_Sort.f k (bt625.1 ++ [(⟨a1_0,a1_1,a1_2⟩:S33)])).bind fun t636=>((image_Of.f k t636).bind fun bt639=>(some (bt639.1,bt639.2)))) else (none)))) else (some ((⟨#[]⟩:ByteArray),bt625.2))))=some (r1,r2):=h;clear h;replace H:=Option.bind_eq_some_iff.mp H;obtain ⟨⟨t625,t626⟩,A30,H⟩:=H;replace H:(if t626=0 then ((tree_Find.f k t625 a1_0).bind fun t629=>(if t629 ≥ 0 then (if 0≤t629 then (if t629 < (t625.length:Int) then ((image_Of.f k (t625.set (t629:Int).toNat (⟨a1_0,a1_1,a1_2⟩:S33))).bind fun bt631=>(some (bt631.1,bt631.2))) else (none)) else (none)) else (if t625.length < 3518437208883 then ((tree_Sort.f k (t625 ++ [(⟨a1_0,a1_1,a1_2⟩:S33)])).bind fun t636=>((image_Of.f k t636).bind fun bt639=>(some (bt639.1,bt639.2)))) else (none)))) else (some ((⟨#[]⟩:ByteArray),t626)))=some (r1,r2):=H;have A3:=Aside0.mk A30;clear A30;by_cases c4:t626=0
 ·rw [if_pos c4] at H;have c4b0:(t626 == 0)=true:=beq_iff_eq.mpr c4;have c4b1:(t626 != 0)=false:=bne_eq_false_iff_eq.mpr c4;clear c4;replace H:=Option.bind_eq_some_iff.mp H;obtain ⟨t629,A50,H⟩:=H;replace H:(if t629 ≥ 0 then (if 0≤t629 then (if t629 < (t625.length:Int) then ((image_Of.f k (t625.set (t629:Int).toNat (⟨a1_0,a1_1,a1_2⟩:S33))).bind fun bt631=>(some (bt631.1,bt631.2))) else (none)) else (none)) else (if t625.length < 3518437208883 then ((tree_Sort.f k (t625 ++ [(⟨a1_0,a1_1,a1_2⟩:S33)])).bind fun t636=>((image_Of.f k t636).bind fun bt639=>(some (bt639.1,bt639.2)))) else (none)))=some (r1,r2):=H;have A5:=Aside0.mk A50;clear A50;by_cases c6:t629 ≥ 0
  ·rw [if_pos c6] at H;have c6b0:decide (0≤t629)=true:=decide_eq_true c6;clear c6;by_cases c7:0≤t629
   ·rw [if_pos c7] at H;have c7b0:decide (0≤t629)=true:=decide_eq_true c7;clear c7;by_cases c8:t629 < (t625.length:Int)
    ·rw [if_pos c8] at H;have c8b0:decide (t629 < (t625.length:Int))=true:=decide_eq_true c8;clear c8;obtain ⟨y630,hy630⟩:∃ y_:List (S33),y_=(t625.set (t629:Int).toNat (⟨a1_0,a1_1,a1_2⟩:S33)):=⟨_,rfl⟩;(replace H:((image_Of.f k y630).bind fun bt631=>(some (bt631.1,bt631.2)))=some (r1,r2):=by first|(rw [hy630];with_reducible exact H)|(have H2_:=(Option.bind_some _ _).symm.trans H;rw [hy630];with_reducible exact H2_)|(have H2_:=(Option.bind_some _ _).symm.trans H;with_reducible exact H2_)|with_reducible exact H|(rw [hy630];exact H)|exact H);have Ny630:=Aside0.mk hy630;clear hy630;replace H:=Option.bind_eq_some_iff.mp H;obtain ⟨⟨t631,t632⟩,A100,H⟩:=H;replace H:(some (t631,t632))=some (r1,r2):=H;have A10:=Aside0.mk A100;clear A100;simp only [Option.some.injEq,Prod.mk.injEq] at H;obtain ⟨rfl,rfl⟩:=H;go_enter Tryd.func25,Tryd.ntmps25;go_wp2_with (first|((with_reducible refine gate_dst (N:=3) rfl ?_);refine box_event ?hg (N:=3) ?hd (cs:=#[.string a1_0,.int .i64 a1_1,.string a1_2]) (t:=33) ?hr ?_;(case hd=>rfl);(case hg=>rfl);(case hr=>first|(go_simp;done)|(go_simp;rfl));intro gb624 hg w11 hbox hb;have n0_:=Aside0.mk (below_step (by repeat (first|(with_reducible first|exact HB.out|apply bal|apply bdN|apply bd1)|exact HB.out)) hb);have n1_:=Aside0.mk (hbox);have n2_:=Aside0.mk ((by rw [hg];exact (below_size (by repeat (first|(with_reducible first|exact HB.out|apply bal|apply bdN|apply bd1)|exact HB.out))):w.heap.size≤gb624));have n3_:=Aside0.mk ((by rw [hg];exact (below_size (by repeat (first|(with_reducible first|exact HB.out|apply bal|apply bdN|apply bd1)|exact HB.out))):w.heap.size≤gb624));clear HB;have HB:=n0_;have BK624:=n1_;have GW624:=n2_;have GE624:=n3_;clear n0_ n1_ n2_ n3_;clear hb hbox hg)|((with_reducible refine gate_callee (f:=17) rfl ?_);refine goesL_ (some 11) rfl rfl Tryd.func17 (by kernel_rfl) rfl #[.string a0] rfl (by (try simp only [List.map_toArray,List.map_cons,List.map_nil]);first|done|rfl|(simp only [List.length_drop,List.length_take];rfl)) ?_;(with_reducible refine (image_Tree.calls k a0 t625 t626 _ A3.out).mono ?_);rintro e w12 ⟨v627,rfl,ho0,hb⟩;refine ⟨_,rfl,?_⟩;have n0_:=Aside0.mk (Kd.R_lower (Kd.R_newB ho0 (g:=gb624) (o:=.cells #[.string a1_0,.int .i64 a1_1,.string a1_2] 33 (0,0)) (by (with_reducible repeat (first|refine blk_drewN ?_ _|refine blk_drew ?_|refine blk_alloc ?_ _));exact BK624.out)) (below_size (by repeat (first|(with_reducible first|exact HB.out|apply bal|apply bdN|apply bd1|refine below_set ?_ GE624.out)|exact HB.out))));have n1_:=Aside0.mk (blk_below (g:=gb624) (o:=.cells #[.string a1_0,.int .i64 a1_1,.string a1_2] 33 (0,0)) (by (with_reducible repeat (first|refine blk_drewN ?_ _|refine blk_drew ?_|refine blk_alloc ?_ _));exact BK624.out) hb);have n2_:=Aside0.mk (below_step (by repeat (first|(with_reducible first|exact HB.out|apply bal|apply bdN|apply bd1|refine below_set ?_ GE624.out)|exact HB.out)) hb);clear BK624;clear HB;have HO628:=n0_;have BK624:=n1_;have HB:=n2_;clear n0_ n1_ n2_;(try clear hb);(try clear hb2);(try clear hk);(try clear hi);(try clear ho0);have hcz13_0:w12.cell? ⟨gb624,0,none⟩=some (.string a1_0):=(blk_cell BK624.out 0).trans rfl;have hcz13_1:w12.cell? ⟨gb624,1,none⟩=some (.int .i64 a1_1):=(blk_cell BK624.out 1).trans rfl;have hcz13_2:w12.cell? ⟨gb624,2,none⟩=some (.string a1_2):=(blk_cell BK624.out 2).trans rfl;have hfz13_0:=blk_frozen BK624.out 0;have hfz13_1:=blk_frozen BK624.out 1;have hfz13_2:=blk_frozen BK624.out 2;obtain ⟨Ao14,co14,eo14⟩:=Kd.R_slice HO628.out;subst eo14)|((with_reducible refine gate_callee (f:=47) rfl ?_);refine goesL_ (some 20) rfl rfl Tryd.func47 (by kernel_rfl) rfl #[.slice Ao14 t625.length co14,.string a1_0] rfl (by (try simp only [List.map_toArray,List.map_cons,List.map_nil]);first|done|rfl|(simp only [List.length_drop,List.length_take];rfl)) ?_;(with_reducible refine (tree_Find.calls k _ _ t625 a1_0 t629 _ ?side1 ?side2 A5.out).mono ?_);(case side1=>repeat (first|exact (Kd.R_reads' HO628.out).2.2|(with_reducible refine Kd.C_alloc ?_ _)|(with_reducible refine Kd.C_drewN ?_ _)|(with_reducible refine Kd.C_drew ?_)));(case side2=>exact (Kd.R_reads' HO628.out).2.1);rintro e w15 ⟨rfl,hb⟩;refine ⟨_,rfl,?_⟩;have n0_:=Aside0.mk (Kd.R_below (by (with_reducible repeat (first|apply Kd.R_alloc|apply Kd.R_drewN|apply Kd.R_drew));exact HO628.out) hb);have n1_:=Aside0.mk (blk_below (g:=gb624) (o:=.cells #[.string a1_0,.int .i64 a1_1,.string a1_2] 33 (0,0)) (by (with_reducible repeat (first|refine blk_drewN ?_ _|refine blk_drew ?_|refine blk_alloc ?_ _));exact BK624.out) hb);have n2_:=Aside0.mk (below_step (by repeat (first|(with_reducible first|exact HB.out|apply bal|apply bdN|apply bd1|refine below_set ?_ GE624.out)|exact HB.out)) hb);clear HO628;clear BK624;clear HB;have HO628:=n0_;have BK624:=n1_;have HB:=n2_;clear n0_ n1_ n2_;(try clear hb);(try clear hb2);(try clear hk);(try clear hi);have hcz16_0:w15.cell? ⟨gb624,0,none⟩=some (.string a1_0):=(blk_cell BK624.out 0).trans rfl;have hcz16_1:w15.cell? ⟨gb624,1,none⟩=some (.int .i64 a1_1):=(blk_cell BK624.out 1).trans rfl;have hcz16_2:w15.cell? ⟨gb624,2,none⟩=some (.string a1_2):=(blk_cell BK624.out 2).trans rfl;have hfz16_0:=blk_frozen BK624.out 0;have hfz16_1:=blk_frozen BK624.out 1;have hfz16_2:=blk_frozen BK624.out 2;have p9:0≤(t629:Int):=of_decide_eq_true (by first|(with_reducible assumption)|assumption);have q9:(t629:Int) < ((t625.length:Int):Int):=of_decide_eq_true (by first|(with_reducible assumption)|assumption);obtain ⟨go9,co9,eo9,gb9,gl9,cl9,HG9⟩:=Kd.R_form HO628.out (by omega);(first|cases eo9|(injection eo9 with ea_ en_ ec_;(first|subst ea_|(injection ea_ with ea_;subst ea_));subst ec_;clear en_));have GB9:=Aside0.mk gb9;have GG9:=Aside0.mk HG9;clear gb9 gl9 HG9;obtain ⟨ce9,hcl9,hM9,hcc9,hfr9⟩:=Kd.R_elem HO628.out z33 (t629:Int) p9 q9;obtain rfl:=k33_openM hM9;have hx9_0:w15.cell? ⟨go9,(t629:Int).toNat * 3,none⟩=some (.string ((rd_T33 t625 t629).f0)):=hcc9 0 _ rfl;have hx9_1:w15.cell? ⟨go9,(t629:Int).toNat * 3 + 1,none⟩=some (.int .i64 ((rd_T33 t625 t629).f1)):=hcc9 1 _ rfl;have hx9_2:w15.cell? ⟨go9,(t629:Int).toNat * 3 + 2,none⟩=some (.string ((rd_T33 t625 t629).f2)):=hcc9 2 _ rfl;have hf9_0:w15.frozen? ⟨go9,(t629:Int).toNat * 3,none⟩=false:=hfr9 0;have hf9_1:w15.frozen? ⟨go9,(t629:Int).toNat * 3 + 1,none⟩=false:=hfr9 1;have hf9_2:w15.frozen? ⟨go9,(t629:Int).toNat * 3 + 2,none⟩=false:=hfr9 2;clear hcl9 hcc9 hfr9 hM9;replace p9:=eq_true p9;replace q9:=eq_true q9;have n_:=Aside0.mk (Kd.R_mono (ok':=(fun k_=>k_ ≠ gb624)) HO628.out (fun k_ hk=>hk.2));clear HO628;have HO628:=n_;clear n_;have HX17:=Aside0.mk (show Kd.R k33 33 w15 w.heap.size (fun k_=>k_ ≠ gb624) (.slice (some ⟨go9,0,none⟩) t625.length co14) t625 from (by (with_reducible repeat (first|apply Kd.R_alloc|apply Kd.R_drewN|apply Kd.R_drew));exact HO628.out));obtain ⟨ce17,hcl17,hM17,hcc17,hfr17⟩:=Kd.R_elem HX17.out z33 (t629:Int) (of_decide_eq_true (by first|(with_reducible assumption)|assumption)) (by have h_:(t629:Int) < ((t625.length:Int):Int):=of_decide_eq_true (by first|(with_reducible assumption)|assumption);first|exact h_|(have e_:=(Kd.R_reads' HO628.out).1;omega)|simpa using h_);obtain rfl:=k33_openM hM17;have HP17:=Kd.R_seg HX17.out (t629:Int) (of_decide_eq_true (by first|(with_reducible assumption)|assumption)) (by have h_:(t629:Int) < ((t625.length:Int):Int):=of_decide_eq_true (by first|(with_reducible assumption)|assumption);first|exact h_|(have e_:=(Kd.R_reads' HO628.out).1;omega)|simpa using h_) (seg:=[.string a1_0,.int .i64 a1_1,.string a1_2]) (j:=0) hcl17 hcc17 (show 3≤3 from by decide) (x':=(⟨a1_0,a1_1,a1_2⟩:S33)) (k33_mkM _ _ _ (⟨a1_0,a1_1,a1_2⟩:S33) ) (fun _ hk=>hk);have hx17_0:=hcc17 0 _ rfl;(try simp only [show (k33).sz=3 from rfl,Nat.mul_one,Nat.add_zero] at hx17_0);have hf17_0:=hfr17 0;(try simp only [show (k33).sz=3 from rfl,Nat.mul_one,Nat.add_zero] at hf17_0);have hx17_1:=hcc17 1 _ rfl;(try simp only [show (k33).sz=3 from rfl,Nat.mul_one,Nat.add_zero] at hx17_1);have hf17_1:=hfr17 1;(try simp only [show (k33).sz=3 from rfl,Nat.mul_one,Nat.add_zero] at hf17_1);have hx17_2:=hcc17 2 _ rfl;(try simp only [show (k33).sz=3 from rfl,Nat.mul_one,Nat.add_zero] at hx17_2);have hf17_2:=hfr17 2;(try simp only [show (k33).sz=3 from rfl,Nat.mul_one,Nat.add_zero] at hf17_2);clear hcl17 hcc17 hfr17 hM17)|((with_reducible refine gate_store (t:=33) (p:=26) rfl ?_);refine store_event (t:=33) (p:=26) (v:=?vo_w18) (w1:=(((w15.setCell ⟨go9,(t629:Int).toNat * 3,none⟩ (.string a1_0)).setCell ⟨go9,(t629:Int).toNat * 3 + 1,none⟩ (.int .i64 a1_1)).setCell ⟨go9,(t629:Int).toNat * 3 + 2,none⟩ (.string a1_2))) ?hg ?ho ?hn ?hr ?_;(case ho=>rfl);(case hg=>rfl);(case hn=>rfl);(case hr=>first|(go_simp;done)|(go_simp;rfl));intro w18 hw;have hg:w15.grownBy w18 (some go9):=(by rw [hw];exact HP17.2);have hp_:Kd.R k33 33 w18 w.heap.size (fun k_=>k_ ≠ gb624) (.slice (some ⟨go9,0,none⟩) t625.length co14) y630:=(by rw [hw,Ny630.out];exact HP17.1);clear HP17;have n0_:=Aside0.mk (blk_grown (g:=gb624) (o:=.cells #[.string a1_0,.int .i64 a1_1,.string a1_2] 33 (0,0)) (by (with_reducible repeat (first|refine blk_drewN ?_ _|refine blk_drew ?_|refine blk_alloc ?_ _));exact BK624.out) hg (Kd.R_away HO628.out (fun _ hk=>hk)));have n1_:=Aside0.mk (hp_);have n2_:=Aside0.mk ((by rw [hw];exact below_set (below_set (below_set (HB.out) GB9.out) GB9.out) GB9.out:Below w.heap.size w w18));clear BK624;clear HO628;clear HB;have BK624:=n0_;have HO628:=n1_;have HB:=n2_;clear n0_ n1_ n2_;clear hg hw hp_)|((with_reducible refine gate_callee (f:=12) rfl ?_);refine goesL_ (some 33) rfl rfl Tryd.func12 (by kernel_rfl) rfl #[.slice (some ⟨go9,0,none⟩) y630.length co14] rfl (by (try simp only [List.map_toArray,List.map_cons,List.map_nil]);first|done|(rw [show y630.length=t625.length from (Kd.R_reads' HO628.out).1.symm] <;> rfl)|rfl|(simp only [List.length_drop,List.length_take];rfl)) ?_;(with_reducible refine (image_Of.calls k _ _ y630 t631 t632 _ ?side1 ?side2 A10.out).mono ?_);(case side1=>repeat (first|exact (Kd.R_reads' HO628.out).2.2|(with_reducible refine Kd.C_alloc ?_ _)|(with_reducible refine Kd.C_drewN ?_ _)|(with_reducible refine Kd.C_drew ?_)));(case side2=>rw [show y630.length=t625.length from (Kd.R_reads' HO628.out).1.symm];exact (Kd.R_reads' HO628.out).2.1);rintro e w19 ⟨rfl,hb⟩;refine ⟨_,rfl,?_⟩;have n0_:=Aside0.mk (Kd.R_below (by (with_reducible repeat (first|apply Kd.R_alloc|apply Kd.R_drewN|apply Kd.R_drew));exact HO628.out) hb);have n1_:=Aside0.mk (blk_below (g:=gb624) (o:=.cells #[.string a1_0,.int .i64 a1_1,.string a1_2] 33 (0,0)) (by (with_reducible repeat (first|refine blk_drewN ?_ _|refine blk_drew ?_|refine blk_alloc ?_ _));exact BK624.out) hb);have n2_:=Aside0.mk (below_step (by repeat (first|(with_reducible first|exact HB.out|apply bal|apply bdN|apply bd1|refine below_set ?_ GE624.out)|exact HB.out)) hb);clear HO628;clear BK624;clear HB;have HO628:=n0_;have BK624:=n1_;have HB:=n2_;clear n0_ n1_ n2_;(try clear hb);(try clear hb2);(try clear hk);(try clear hi)));go_ret2;exact ⟨by first|rfl|(simp [errW_none,errW_some] <;> rfl)|(simp [*,errW_none,errW_some] <;> rfl),by repeat (first|(with_reducible first|exact HB.out|apply bal|apply bdN|apply bd1|refine below_set ?_ GE624.out)|exact HB.out)⟩
    ·rw [if_neg c8] at H;exact absurd H (by simp)
   ·rw [if_neg c7] at H;exact absurd H (by simp)
  ·rw [if_neg c6] at H;have c6b0:decide (0≤t629)=false:=decide_eq_false c6;clear c6;by_cases c20:t625.length < 3518437208883
   ·rw [if_pos c20] at H;have LMc20:=Aside0.mk c20;clear c20;obtain ⟨y633,hy633⟩:∃ y_:List (S33),y_=(t625 ++ [(⟨a1_0,a1_1,a1_2⟩:S33)]):=⟨_,rfl⟩;(replace H:((tree_Sort.f k y633).bind fun t636=>((image_Of.f k t636).bind fun bt639=>(some (bt639.1,bt639.2))))=some (r1,r2):=by first|(rw [hy633];with_reducible exact H)|(have H2_:=(Option.bind_some _ _).symm.trans H;rw [hy633];with_reducible exact H2_)|(have H2_:=(Option.bind_some _ _).symm.trans H;with_reducible exact H2_)|with_reducible exact H|(rw [hy633];exact H)|exact H);have Ny633:=Aside0.mk hy633;clear hy633;replace H:=Option.bind_eq_some_iff.mp H;obtain ⟨t636,A210,H⟩:=H;replace H:((image_Of.f k t636).bind fun bt639=>(some (bt639.1,bt639.2)))=some (r1,r2):=H;have A21:=Aside0.mk A210;clear A210;replace H:=Option.bind_eq_some_iff.mp H;obtain ⟨⟨t639,t640⟩,A220,H⟩:=H;replace H:(some (t639,t640))=some (r1,r2):=H;have A22:=Aside0.mk A220;clear A220;simp only [Option.some.injEq,Prod.mk.injEq] at H;obtain ⟨rfl,rfl⟩:=H;go_enter Tryd.func25,Tryd.ntmps25;go_wp2_with (first|((with_reducible refine gate_dst (N:=3) rfl ?_);refine box_event ?hg (N:=3) ?hd (cs:=#[.string a1_0,.int .i64 a1_1,.string a1_2]) (t:=33) ?hr ?_;(case hd=>rfl);(case hg=>rfl);(case hr=>first|(go_simp;done)|(go_simp;rfl));intro gb624 hg w23 hbox hb;have n0_:=Aside0.mk (below_step (by repeat (first|(with_reducible first|exact HB.out|apply bal|apply bdN|apply bd1)|exact HB.out)) hb);have n1_:=Aside0.mk (hbox);have n2_:=Aside0.mk ((by rw [hg];exact (below_size (by repeat (first|(with_reducible first|exact HB.out|apply bal|apply bdN|apply bd1)|exact HB.out))):w.heap.size≤gb624));have n3_:=Aside0.mk ((by rw [hg];exact (below_size (by repeat (first|(with_reducible first|exact HB.out|apply bal|apply bdN|apply bd1)|exact HB.out))):w.heap.size≤gb624));clear HB;have HB:=n0_;have BK624:=n1_;have GW624:=n2_;have GE624:=n3_;clear n0_ n1_ n2_ n3_;clear hb hbox hg)|((with_reducible refine gate_callee (f:=17) rfl ?_);refine goesL_ (some 11) rfl rfl Tryd.func17 (by kernel_rfl) rfl #[.string a0] rfl (by (try simp only [List.map_toArray,List.map_cons,List.map_nil]);first|done|rfl|(simp only [List.length_drop,List.length_take];rfl)) ?_;(with_reducible refine (image_Tree.calls k a0 t625 t626 _ A3.out).mono ?_);rintro e w24 ⟨v627,rfl,ho0,hb⟩;refine ⟨_,rfl,?_⟩;have n0_:=Aside0.mk (Kd.R_lower (Kd.R_newB ho0 (g:=gb624) (o:=.cells #[.string a1_0,.int .i64 a1_1,.string a1_2] 33 (0,0)) (by (with_reducible repeat (first|refine blk_drewN ?_ _|refine blk_drew ?_|refine blk_alloc ?_ _));exact BK624.out)) (below_size (by repeat (first|(with_reducible first|exact HB.out|apply bal|apply bdN|apply bd1|refine below_set ?_ GE624.out)|exact HB.out))));have n1_:=Aside0.mk (blk_below (g:=gb624) (o:=.cells #[.string a1_0,.int .i64 a1_1,.string a1_2] 33 (0,0)) (by (with_reducible repeat (first|refine blk_drewN ?_ _|refine blk_drew ?_|refine blk_alloc ?_ _));exact BK624.out) hb);have n2_:=Aside0.mk (below_step (by repeat (first|(with_reducible first|exact HB.out|apply bal|apply bdN|apply bd1|refine below_set ?_ GE624.out)|exact HB.out)) hb);clear BK624;clear HB;have HO628:=n0_;have BK624:=n1_;have HB:=n2_;clear n0_ n1_ n2_;(try clear hb);(try clear hb2);(try clear hk);(try clear hi);(try clear ho0);have hcz25_0:w24.cell? ⟨gb624,0,none⟩=some (.string a1_0):=(blk_cell BK624.out 0).trans rfl;have hcz25_1:w24.cell? ⟨gb624,1,none⟩=some (.int .i64 a1_1):=(blk_cell BK624.out 1).trans rfl;have hcz25_2:w24.cell? ⟨gb624,2,none⟩=some (.string a1_2):=(blk_cell BK624.out 2).trans rfl;have hfz25_0:=blk_frozen BK624.out 0;have hfz25_1:=blk_frozen BK624.out 1;have hfz25_2:=blk_frozen BK624.out 2;obtain ⟨Ao26,co26,eo26⟩:=Kd.R_slice HO628.out;subst eo26)|((with_reducible refine gate_callee (f:=47) rfl ?_);refine goesL_ (some 20) rfl rfl Tryd.func47 (by kernel_rfl) rfl #[.slice Ao26 t625.length co26,.string a1_0] rfl (by (try simp only [List.map_toArray,List.map_cons,List.map_nil]);first|done|rfl|(simp only [List.length_drop,List.length_take];rfl)) ?_;(with_reducible refine (tree_Find.calls k _ _ t625 a1_0 t629 _ ?side1 ?side2 A5.out).mono ?_);(case side1=>repeat (first|exact (Kd.R_reads' HO628.out).2.2|(with_reducible refine Kd.C_alloc ?_ _)|(with_reducible refine Kd.C_drewN ?_ _)|(with_reducible refine Kd.C_drew ?_)));(case side2=>exact (Kd.R_reads' HO628.out).2.1);rintro e w27 ⟨rfl,hb⟩;refine ⟨_,rfl,?_⟩;have n0_:=Aside0.mk (Kd.R_below (by (with_reducible repeat (first|apply Kd.R_alloc|apply Kd.R_drewN|apply Kd.R_drew));exact HO628.out) hb);have n1_:=Aside0.mk (blk_below (g:=gb624) (o:=.cells #[.string a1_0,.int .i64 a1_1,.string a1_2] 33 (0,0)) (by (with_reducible repeat (first|refine blk_drewN ?_ _|refine blk_drew ?_|refine blk_alloc ?_ _));exact BK624.out) hb);have n2_:=Aside0.mk (below_step (by repeat (first|(with_reducible first|exact HB.out|apply bal|apply bdN|apply bd1|refine below_set ?_ GE624.out)|exact HB.out)) hb);clear HO628;clear BK624;clear HB;have HO628:=n0_;have BK624:=n1_;have HB:=n2_;clear n0_ n1_ n2_;(try clear hb);(try clear hb2);(try clear hk);(try clear hi);have hcz28_0:w27.cell? ⟨gb624,0,none⟩=some (.string a1_0):=(blk_cell BK624.out 0).trans rfl;have hcz28_1:w27.cell? ⟨gb624,1,none⟩=some (.int .i64 a1_1):=(blk_cell BK624.out 1).trans rfl;have hcz28_2:w27.cell? ⟨gb624,2,none⟩=some (.string a1_2):=(blk_cell BK624.out 2).trans rfl;have hfz28_0:=blk_frozen BK624.out 0;have hfz28_1:=blk_frozen BK624.out 1;have hfz28_2:=blk_frozen BK624.out 2)|((with_reducible refine gate_builtin (b:=.append) (xs:=#[.tmp 27,.tmp 29]) rfl ?_);at_builtin;refine Kd.R_append k33 (w0:=w) w.heap.size rfl (.tmp 27) (.tmp 29) 22 33 (.agg #[(.string ⟨#[]⟩),(.int .i64 0),(.string ⟨#[]⟩)]) 40 rfl Tryd.underlying22 info33 rfl (by decide) (by omega) (.slice Ao26 t625.length co26) t625 (⟨a1_0,a1_1,a1_2⟩:S33) [.string a1_0,.int .i64 a1_1,.string a1_2] (fun k_=>k_ ≠ gb624) (fun _=>False) rfl rfl ?aP (fun _ hk=>hk.elim) ?aF ?aO ?aB ?aS ?aL ?_;(case aP=>exact k33_mkM _ _ _ (⟨a1_0,a1_1,a1_2⟩:S33));(case aB=>exact (by repeat (first|(with_reducible first|exact HB.out|apply bal|apply bdN|apply bd1|refine below_set ?_ GE624.out)|exact HB.out)));(case aF=>exact (fun k_ hk=>Kd.freshB (g:=gb624) (o:=.cells #[.string a1_0,.int .i64 a1_1,.string a1_2] 33 (0,0)) (by (with_reducible repeat (first|refine blk_drewN ?_ _|refine blk_drew ?_|refine blk_alloc ?_ _));exact BK624.out) k_ hk));(case aO=>exact (by (with_reducible repeat (first|apply Kd.R_alloc|apply Kd.R_drewN|apply Kd.R_drew));exact Kd.R_mono HO628.out (fun _ hk=>hk.2)));(case aS=>exact (below_size (by repeat (first|(with_reducible first|exact HB.out|apply bal|apply bdN|apply bd1|refine below_set ?_ GE624.out)|exact HB.out))));(case aL=>have:=LMc20.out;omega);intro v634 w29 ho hb hg hat;rw [← Ny633.out] at ho;have n0_:=Aside0.mk (blk_grown (g:=gb624) (o:=.cells #[.string a1_0,.int .i64 a1_1,.string a1_2] 33 (0,0)) (by (with_reducible repeat (first|refine blk_drewN ?_ _|refine blk_drew ?_|refine blk_alloc ?_ _));exact BK624.out) hg (Kd.R_away HO628.out (fun _ hk=>hk.2)));have n1_:=Aside0.mk (hb);have n2_:=Aside0.mk (ho);clear BK624;clear HB;clear HO628;have BK624:=n0_;have HB:=n1_;have HO635:=n2_;clear n0_ n1_ n2_;clear ho hb hg hat;obtain ⟨Ao30,co30,eo30⟩:=Kd.R_slice HO635.out;subst eo30)|((with_reducible refine gate_callee (f:=48) rfl ?_);refine goesL_ (some 31) rfl rfl Tryd.func48 (by kernel_rfl) rfl #[.slice Ao30 y633.length co30] rfl (by (try simp only [List.map_toArray,List.map_cons,List.map_nil]);first|done|rfl|(simp only [List.length_drop,List.length_take];rfl)) ?_;(with_reducible refine (tree_Sort.calls k _ _ y633 t636 _ ?side1 ?side2 A21.out).mono ?_);(case side1=>repeat (first|exact (Kd.R_reads' HO635.out).2.2|(with_reducible refine Kd.C_alloc ?_ _)|(with_reducible refine Kd.C_drewN ?_ _)|(with_reducible refine Kd.C_drew ?_)));(case side2=>exact (Kd.R_reads' HO635.out).2.1);rintro e w31 ⟨v637,rfl,ho0,hb⟩;refine ⟨_,rfl,?_⟩;have n0_:=Aside0.mk (Kd.R_elder' (by (with_reducible repeat (first|apply Kd.R_alloc|apply Kd.R_drewN|apply Kd.R_drew));exact HO635.out) (Kd.R_base ho0) hb);have n1_:=Aside0.mk (Kd.R_lower (Kd.R_newB (Kd.R_new' ho0 (Kd.R_lt (by (with_reducible repeat (first|apply Kd.R_alloc|apply Kd.R_drewN|apply Kd.R_drew));exact HO635.out))) (g:=gb624) (o:=.cells #[.string a1_0,.int .i64 a1_1,.string a1_2] 33 (0,0)) (by (with_reducible repeat (first|refine blk_drewN ?_ _|refine blk_drew ?_|refine blk_alloc ?_ _));exact BK624.out)) (below_size (by repeat (first|(with_reducible first|exact HB.out|apply bal|apply bdN|apply bd1|refine below_set ?_ GE624.out)|exact HB.out))));have n2_:=Aside0.mk (blk_below (g:=gb624) (o:=.cells #[.string a1_0,.int .i64 a1_1,.string a1_2] 33 (0,0)) (by (with_reducible repeat (first|refine blk_drewN ?_ _|refine blk_drew ?_|refine blk_alloc ?_ _));exact BK624.out) hb);have n3_:=Aside0.mk (below_step (by repeat (first|(with_reducible first|exact HB.out|apply bal|apply bdN|apply bd1|refine below_set ?_ GE624.out)|exact HB.out)) hb);clear HO635;clear BK624;clear HB;have HO635:=n0_;have HO638:=n1_;have BK624:=n2_;have HB:=n3_;clear n0_ n1_ n2_ n3_;(try clear hb);(try clear hb2);(try clear hk);(try clear hi);(try clear ho0);obtain ⟨Ao32,co32,eo32⟩:=Kd.R_slice HO638.out;subst eo32)|((with_reducible refine gate_callee (f:=12) rfl ?_);refine goesL_ (some 33) rfl rfl Tryd.func12 (by kernel_rfl) rfl #[.slice Ao32 t636.length co32] rfl (by (try simp only [List.map_toArray,List.map_cons,List.map_nil]);first|done|rfl|(simp only [List.length_drop,List.length_take];rfl)) ?_;(with_reducible refine (image_Of.calls k _ _ t636 t639 t640 _ ?side1 ?side2 A22.out).mono ?_);(case side1=>repeat (first|exact (Kd.R_reads' HO638.out).2.2|(with_reducible refine Kd.C_alloc ?_ _)|(with_reducible refine Kd.C_drewN ?_ _)|(with_reducible refine Kd.C_drew ?_)));(case side2=>exact (Kd.R_reads' HO638.out).2.1);rintro e w33 ⟨rfl,hb⟩;refine ⟨_,rfl,?_⟩;have n0_:=Aside0.mk (Kd.R_below (by (with_reducible repeat (first|apply Kd.R_alloc|apply Kd.R_drewN|apply Kd.R_drew));exact HO635.out) hb);have n1_:=Aside0.mk (Kd.R_below (by (with_reducible repeat (first|apply Kd.R_alloc|apply Kd.R_drewN|apply Kd.R_drew));exact HO638.out) hb);have n2_:=Aside0.mk (blk_below (g:=gb624) (o:=.cells #[.string a1_0,.int .i64 a1_1,.string a1_2] 33 (0,0)) (by (with_reducible repeat (first|refine blk_drewN ?_ _|refine blk_drew ?_|refine blk_alloc ?_ _));exact BK624.out) hb);have n3_:=Aside0.mk (below_step (by repeat (first|(with_reducible first|exact HB.out|apply bal|apply bdN|apply bd1|refine below_set ?_ GE624.out)|exact HB.out)) hb);clear HO635;clear HO638;clear BK624;clear HB;have HO635:=n0_;have HO638:=n1_;have BK624:=n2_;have HB:=n3_;clear n0_ n1_ n2_ n3_;(try clear hb);(try clear hb2);(try clear hk);(try clear hi)));go_ret2;exact ⟨by first|rfl|(simp [errW_none,errW_some] <;> rfl)|(simp [*,errW_none,errW_some] <;> rfl),by repeat (first|(with_reducible first|exact HB.out|apply bal|apply bdN|apply bd1|refine below_set ?_ GE624.out)|exact HB.out)⟩
   ·rw [if_neg c20] at H;exact absurd H (by simp)
 ·rw [if_neg c4] at H;have c4b0:(t626 == 0)=false:=beq_eq_false_iff_ne.mpr c4;have c4b1:(t626 != 0)=true:=bne_iff_ne.mpr c4;simp only [Option.some.injEq,Prod.mk.injEq] at H;obtain ⟨rfl,rfl⟩:=H;go_enter Tryd.func25,Tryd.ntmps25;go_wp2_with (first|((with_reducible refine gate_dst (N:=3) rfl ?_);refine box_event ?hg (N:=3) ?hd (cs:=#[.string a1_0,.int .i64 a1_1,.string a1_2]) (t:=33) ?hr ?_;(case hd=>rfl);(case hg=>rfl);(case hr=>first|(go_simp;done)|(go_simp;rfl));intro gb624 hg w34 hbox hb;have n0_:=Aside0.mk (below_step (by repeat (first|(with_reducible first|exact HB.out|apply bal|apply bdN|apply bd1)|exact HB.out)) hb);have n1_:=Aside0.mk (hbox);have n2_:=Aside0.mk ((by rw [hg];exact (below_size (by repeat (first|(with_reducible first|exact HB.out|apply bal|apply bdN|apply bd1)|exact HB.out))):w.heap.size≤gb624));have n3_:=Aside0.mk ((by rw [hg];exact (below_size (by repeat (first|(with_reducible first|exact HB.out|apply bal|apply bdN|apply bd1)|exact HB.out))):w.heap.size≤gb624));clear HB;have HB:=n0_;have BK624:=n1_;have GW624:=n2_;have GE624:=n3_;clear n0_ n1_ n2_ n3_;clear hb hbox hg)|((with_reducible refine gate_callee (f:=17) rfl ?_);refine goesL_ (some 11) rfl rfl Tryd.func17 (by kernel_rfl) rfl #[.string a0] rfl (by (try simp only [List.map_toArray,List.map_cons,List.map_nil]);first|done|rfl|(simp only [List.length_drop,List.length_take];rfl)) ?_;(with_reducible refine (image_Tree.calls k a0 t625 t626 _ A3.out).mono ?_);rintro e w35 ⟨v627,rfl,ho0,hb⟩;refine ⟨_,rfl,?_⟩;have n0_:=Aside0.mk (Kd.R_lower (Kd.R_newB ho0 (g:=gb624) (o:=.cells #[.string a1_0,.int .i64 a1_1,.string a1_2] 33 (0,0)) (by (with_reducible repeat (first|refine blk_drewN ?_ _|refine blk_drew ?_|refine blk_alloc ?_ _));exact BK624.out)) (below_size (by repeat (first|(with_reducible first|exact HB.out|apply bal|apply bdN|apply bd1|refine below_set ?_ GE624.out)|exact HB.out))));have n1_:=Aside0.mk (blk_below (g:=gb624) (o:=.cells #[.string a1_0,.int .i64 a1_1,.string a1_2] 33 (0,0)) (by (with_reducible repeat (first|refine blk_drewN ?_ _|refine blk_drew ?_|refine blk_alloc ?_ _));exact BK624.out) hb);have n2_:=Aside0.mk (below_step (by repeat (first|(with_reducible first|exact HB.out|apply bal|apply bdN|apply bd1|refine below_set ?_ GE624.out)|exact HB.out)) hb);clear BK624;clear HB;have HO628:=n0_;have BK624:=n1_;have HB:=n2_;clear n0_ n1_ n2_;(try clear hb);(try clear hb2);(try clear hk);(try clear hi);(try clear ho0)));go_ret2;exact ⟨by first|rfl|(simp [errW_none,errW_some] <;> rfl)|(simp [*,errW_none,errW_some] <;> rfl),by repeat (first|(with_reducible first|exact HB.out|apply bal|apply bdN|apply bd1|refine below_set ?_ GE624.out)|exact HB.out)⟩
end Go.Proofs.YtmeofdpmddjbgaaDoor.G
end
