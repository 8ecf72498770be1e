-- Written by a program (wip/myprint.py): the machine side of one law: each function that it reaches, as a plain function, and the proof that a call comes to just that.
import Derived.Test.YtojfbgegankddaaPGVx0
import Derived.Test.YtojfbgegankddaaPGVx1
namespace Go.Proofs.Ytojfbgegankddaa.PGV
open Go.RowKit Go.Proofs.YtojfbgegankddaaW.PrintWords Go.Proofs.YtojfbgegankddaaW.PrintLast Go.Proofs.YtojfbgegankddaaW.PrintMore
attribute [local go_sem] max2_int min2_int max_two min_two max_three min_three max_four min_four   -- for this text's walks alone
set_option linter.unusedVariables false
set_option linter.unusedSimpArgs false

attribute [local go_sem high] eqA32
/-! ### laws_daSame: function 13 -/
def laws_daSame.l0:Nat→List Int→List Int→Int→Int→Option (Bool)
 |0,_,_,_,_=>none
 |k+1,x0,x1,x10,x11=>if x11<x10 then (if 0≤x11 then (if x11<(x0.length:Int) then (if x11<(x1.length:Int) then (if (rd x0 x11)=(rd x1 x11) then (laws_daSame.l0 k x0 x1 x10 (wrap64 (x11+1))) else (some false)) else (none)) else (none)) else (none)) else (some ((x0.length:Int)==(x1.length:Int)))
def laws_daSame.f (k:Nat) (l0:List Int) (l1:List Int):Option (Bool):=laws_daSame.l0 k l0 l1 (mn (l0.length:Int) (l1.length:Int)) 0
theorem laws_daSame.mono_l:∀k,(∀y0 y1 y2 y3,LeO (laws_daSame.l0 k y0 y1 y2 y3) (laws_daSame.l0 (k+1) y0 y1 y2 y3))
 |0=>fun _ _ _ _ r h=>by simp [laws_daSame.l0] at h
 |k+1=>by
  have ih0:=laws_daSame.mono_l k
  ·intro y0 y1 y2 y3;unfold laws_daSame.l0;repeat' first
   |(with_reducible exact ih0 _ _ _ _)
   |(with_reducible exact LeO.refl _)
   |(with_reducible exact LeO.none _)
   |(with_reducible refine LeO.ite ?_ ?_)
   |(with_reducible refine LeO.bind ?_ (fun _=> ?_))
theorem laws_daSame.mono:∀a0 a1 k,LeO (laws_daSame.f k a0 a1) (laws_daSame.f (k+1) a0 a1):=by
 intro a0 a1 k;have ih0:=laws_daSame.mono_l k;unfold laws_daSame.f;repeat' first
   |(with_reducible exact ih0 _ _ _ _)
   |(with_reducible exact LeO.refl _)
   |(with_reducible exact LeO.none _)
   |(with_reducible refine LeO.ite ?_ ?_)
   |(with_reducible refine LeO.bind ?_ (fun _=> ?_))
set_option maxHeartbeats 8000000 in
set_option maxRecDepth 100000 in
theorem laws_daSame.calls (k:Nat) (A0:Option Addr) (c0:Nat) (l0:List Int) (A1:Option Addr) (c1:Nat) (l1:List Int) (r:Bool) (w:World) (hr0:Kd.C (Kd.int .i64) w A0 l0.length l0) (hc0:l0.length≤c0) (hr1:Kd.C (Kd.int .i64) w A1 l1.length l1) (hc1:l1.length≤c1) (h:laws_daSame.f k l0 l1=some r):
  Calls Try.prog 13 #[.slice A0 l0.length c0, .slice A1 l1.length c1] w fun e w'=>e= .returned (.bool r)∧Below w.heap.size w w':=by
 have HR0:=am hr0;have HC0:=am hc0;clear hr0 hc0;have HR1:=am hr1;have HC1:=am hc1;clear hr1 hc1;have HB:=am (Below.refl w.heap.size w);have H:(laws_daSame.l0 k l0 l1 (mn (l0.length:Int) (l1.length:Int)) 0)=some r:=h;clear h;obtain ⟨ji3,hji3⟩:∃j_:Int,(mn (l0.length:Int) (l1.length:Int))=j_:=⟨_,rfl⟩
 replace H:(laws_daSame.l0 k l0 l1 ji3 0)=some r:=by first|(rw [hji3] at H;exact H)|(simp only [hji3] at H ⊢;exact H)
 (try (have hji3l:0≤ji3:=by (rw [←hji3];unfold mn;(repeat' split)<;> omega)));(try (have hji3m:0≤ji3:=by omega));have hji3_:(if (l1.length:Int)<(l0.length:Int) then (l1.length:Int) else (l0.length:Int))=ji3:=hji3
 have hji3n_:(if l1.length<l0.length then (l1.length:Int) else (l0.length:Int))=ji3:=by rw [←hji3_];simp only [Int.ofNat_lt]
 have H':=am H;clear H;go_enter Try.func13,Try.ntmps13;go_wp2
 repeat (go_quiet (fail);try go_wp2)
 go_loopg [11] k (fun kq v11 w'=>∃(x11_1:Int),v11= .int .i64 x11_1∧Aside0 (laws_daSame.l0 kq l0 l1 ji3 x11_1=some r)∧Aside0 (kq≤k)∧Aside0 (Below w.heap.size w w'))
 case atStart=>exact ⟨(0),(by first|rfl|(simp;done)|(simp [*];done)),H',⟨Nat.le_refl _⟩,⟨by exact bz HB.out⟩⟩
 case round=>
  clear H';(try clear c1);(try clear p2);obtain ⟨x11_1,rfl,HA,HK1,HB⟩:=hrel
  cases gk with
  |zero=>exact absurd HA.out (by simp [laws_daSame.l0])
  |succ k1=>
   have H:=HA.out;clear HA;simp only [laws_daSame.l0] at H;by_cases c4:x11_1<ji3
   ·rw [if_pos c4] at H;have c4b0:=decide_eq_true c4;clear c4;by_cases c5:0≤x11_1
    ·rw [if_pos c5] at H;have c5b0:=decide_eq_true c5;clear c5;by_cases c6:x11_1<(l0.length:Int)
     ·rw [if_pos c6] at H;have c6b0:=decide_eq_true c6;clear c6;by_cases c7:x11_1<(l1.length:Int)
      ·rw [if_pos c7] at H;have c7b0:=decide_eq_true c7;clear c7;by_cases c8:(rd l0 x11_1)=(rd l1 x11_1)
       ·rw [if_pos c8] at H;have c8b0:((rd l0 x11_1)==(rd l1 x11_1))=true:=beq_iff_eq.mpr c8;have c8b1:((rd l0 x11_1) != (rd l1 x11_1))=false:=bne_eq_false_iff_eq.mpr c8;clear c8;have H':=am H;clear H;have p101:0≤(x11_1:Int):=da;have q101:x11_1<(l0.length:Int):=da;obtain ⟨ad101,e101,hx101_0⟩:=Kd.at_int HR0.out x11_1 p101 q101;cases e101;replace hx101_0:=lx (bw HB.out) hx101_0;replace p101:=eq_true p101;replace q101:=eq_true q101;have p102:0≤(x11_1:Int):=da;have q102:x11_1<(l1.length:Int):=da;obtain ⟨ad102,e102,hx102_0⟩:=Kd.at_int HR1.out x11_1 p102 q102;cases e102;replace hx102_0:=lx (bw HB.out) hx102_0;replace p102:=eq_true p102;replace q102:=eq_true q102;go_wp2
        repeat (go_quiet (fail);try go_wp2)
        go_roundg k1
        case measure=>have:=HK1.out;omega
        case rel=>exact ⟨(wrap64 (x11_1+1)),(by first|rfl|(simp;done)|(simp [*];done)),H',⟨by have:=HK1.out;omega⟩,⟨by exact bz HB.out⟩⟩
       ·rw [if_neg c8] at H;have c8b0:((rd l0 x11_1)==(rd l1 x11_1))=false:=beq_eq_false_iff_ne.mpr c8;have c8b1:((rd l0 x11_1) != (rd l1 x11_1))=true:=bne_iff_ne.mpr c8;obtain rfl:=Option.some.inj H;have p101:0≤(x11_1:Int):=da;have q101:x11_1<(l0.length:Int):=da;obtain ⟨ad101,e101,hx101_0⟩:=Kd.at_int HR0.out x11_1 p101 q101;cases e101;replace hx101_0:=lx (bw HB.out) hx101_0;replace p101:=eq_true p101;replace q101:=eq_true q101;have p102:0≤(x11_1:Int):=da;have q102:x11_1<(l1.length:Int):=da;obtain ⟨ad102,e102,hx102_0⟩:=Kd.at_int HR1.out x11_1 p102 q102;cases e102;replace hx102_0:=lx (bw HB.out) hx102_0;replace p102:=eq_true p102;replace q102:=eq_true q102;go_wp2
        repeat (go_quiet (fail);try go_wp2)
        go_ret;exact ⟨by first|rfl|(simp [errW_none,errW_some]<;> rfl)|(simp only [←hji3];first|rfl|(simp [errW_none,errW_some]<;> rfl))|(simp [*,errW_none,errW_some]<;> rfl),by exact bz HB.out⟩
      ·rw [if_neg c7] at H;exact absurd H (by simp)
     ·rw [if_neg c6] at H;exact absurd H (by simp)
    ·rw [if_neg c5] at H;exact absurd H (by simp)
   ·rw [if_neg c4] at H;have c4b0:decide (x11_1<ji3)=false:=decide_eq_false c4;clear c4;obtain rfl:=Option.some.inj H;go_wp2
    repeat (go_quiet (fail);try go_wp2)
    go_ret;exact ⟨by first|rfl|(simp [errW_none,errW_some]<;> rfl)|(simp only [←hji3];first|rfl|(simp [errW_none,errW_some]<;> rfl))|(simp [*,errW_none,errW_some]<;> rfl),by exact bz HB.out⟩

/-! ### laws_daAutomaton: function 12 -/
def laws_daAutomaton.l0:Nat→Int→Int→Int→List Int→List Int→List (S32)→Int→List Int→List Int→List (S32)→Option (Bool)
 |0,_,_,_,_,_,_,_,_,_,_=>none
 |k+1,x12,x13,x104000,x104001,x104002,x104003,x105000,x105001,x105002,x105003=>if x13<x12 then (if 0≤x13 then (if x13<(x104003.length:Int) then (if x13<(x105003.length:Int) then (if (!(((rd_T32 x104003 x13).f0)==((rd_T32 x105003 x13).f0))||(!((((rd_T32 x104003 x13).f1).toList)==(((rd_T32 x105003 x13).f1).toList))||(!(((rd_T32 x104003 x13).f2)==((rd_T32 x105003 x13).f2))||(!(((rd_T32 x104003 x13).f3)==((rd_T32 x105003 x13).f3))))))=true then (some false) else (laws_daAutomaton.l0 k x12 (wrap64 (x13+1)) x104000 x104001 x104002 x104003 x105000 x105001 x105002 x105003)) else (none)) else (none)) else (none)) else (if x104000=x105000 then ((laws_daSame.f k x104001 x105001).bind fun t107=>(if t107=true then ((laws_daSame.f k x104002 x105002).bind fun t108=>(if t108=true then (some ((x104003.length:Int)==(x105003.length:Int))) else (some false))) else (some false))) else (some false))
def laws_daAutomaton.f (k:Nat) (a0_0:Int) (l0_1:List Int) (l0_2:List Int) (l0_3:List (S32)) (a1_0:Int) (l1_1:List Int) (l1_2:List Int) (l1_3:List (S32)):Option (Bool):=laws_daAutomaton.l0 k (mn (l0_3.length:Int) (l1_3.length:Int)) 0 a0_0 l0_1 l0_2 l0_3 a1_0 l1_1 l1_2 l1_3
theorem laws_daAutomaton.mono_l:∀k,(∀y0 y1 y2 y3 y4 y5 y6 y7 y8 y9,LeO (laws_daAutomaton.l0 k y0 y1 y2 y3 y4 y5 y6 y7 y8 y9) (laws_daAutomaton.l0 (k+1) y0 y1 y2 y3 y4 y5 y6 y7 y8 y9))
 |0=>fun _ _ _ _ _ _ _ _ _ _ r h=>by simp [laws_daAutomaton.l0] at h
 |k+1=>by
  have ih0:=laws_daAutomaton.mono_l k
  ·intro y0 y1 y2 y3 y4 y5 y6 y7 y8 y9;unfold laws_daAutomaton.l0;repeat' first
   |(with_reducible exact ih0 _ _ _ _ _ _ _ _ _ _)
   |(with_reducible exact laws_daSame.mono _ _ _)
   |(with_reducible exact LeO.refl _)
   |(with_reducible exact LeO.none _)
   |(with_reducible refine LeO.ite ?_ ?_)
   |(with_reducible refine LeO.bind ?_ (fun _=> ?_))
theorem laws_daAutomaton.mono:∀a0 a1 a2 a3 a4 a5 a6 a7 k,LeO (laws_daAutomaton.f k a0 a1 a2 a3 a4 a5 a6 a7) (laws_daAutomaton.f (k+1) a0 a1 a2 a3 a4 a5 a6 a7):=by
 intro a0 a1 a2 a3 a4 a5 a6 a7 k;have ih0:=laws_daAutomaton.mono_l k;unfold laws_daAutomaton.f;repeat' first
   |(with_reducible exact ih0 _ _ _ _ _ _ _ _ _ _)
   |(with_reducible exact laws_daSame.mono _ _ _)
   |(with_reducible exact LeO.refl _)
   |(with_reducible exact LeO.none _)
   |(with_reducible refine LeO.ite ?_ ?_)
   |(with_reducible refine LeO.bind ?_ (fun _=> ?_))
set_option maxHeartbeats 8000000 in
set_option maxRecDepth 100000 in
theorem laws_daAutomaton.calls (k:Nat) (a0_0:Int) (A0_1:Option Addr) (c0_1:Nat) (l0_1:List Int) (A0_2:Option Addr) (c0_2:Nat) (l0_2:List Int) (A0_3:Option Addr) (c0_3:Nat) (l0_3:List (S32)) (a1_0:Int) (A1_1:Option Addr) (c1_1:Nat) (l1_1:List Int) (A1_2:Option Addr) (c1_2:Nat) (l1_2:List Int) (A1_3:Option Addr) (c1_3:Nat) (l1_3:List (S32)) (r:Bool) (w:World) (hr0_1:Kd.C (Kd.int .i64) w A0_1 l0_1.length l0_1) (hc0_1:l0_1.length≤c0_1) (hr0_2:Kd.C (Kd.int .i64) w A0_2 l0_2.length l0_2) (hc0_2:l0_2.length≤c0_2) (hr0_3:Kd.C k32 w A0_3 l0_3.length l0_3) (hc0_3:l0_3.length≤c0_3) (hr1_1:Kd.C (Kd.int .i64) w A1_1 l1_1.length l1_1) (hc1_1:l1_1.length≤c1_1) (hr1_2:Kd.C (Kd.int .i64) w A1_2 l1_2.length l1_2) (hc1_2:l1_2.length≤c1_2) (hr1_3:Kd.C k32 w A1_3 l1_3.length l1_3) (hc1_3:l1_3.length≤c1_3) (h:laws_daAutomaton.f k a0_0 l0_1 l0_2 l0_3 a1_0 l1_1 l1_2 l1_3=some r):
  Calls Try.prog 12 #[.agg #[.int .i64 a0_0, .slice A0_1 l0_1.length c0_1, .slice A0_2 l0_2.length c0_2, .slice A0_3 l0_3.length c0_3], .agg #[.int .i64 a1_0, .slice A1_1 l1_1.length c1_1, .slice A1_2 l1_2.length c1_2, .slice A1_3 l1_3.length c1_3]] w fun e w'=>e= .returned (.bool r)∧Below w.heap.size w w':=by
 have hu26:=Try.underlying26;have hu32:=Try.underlying32;have HR0_1:=am hr0_1;have HC0_1:=am hc0_1;clear hr0_1 hc0_1;have HR0_2:=am hr0_2;have HC0_2:=am hc0_2;clear hr0_2 hc0_2;have HR0_3:=am hr0_3;have HC0_3:=am hc0_3;clear hr0_3 hc0_3;have HR1_1:=am hr1_1;have HC1_1:=am hc1_1;clear hr1_1 hc1_1;have HR1_2:=am hr1_2;have HC1_2:=am hc1_2;clear hr1_2 hc1_2;have HR1_3:=am hr1_3;have HC1_3:=am hc1_3;clear hr1_3 hc1_3;have HB:=am (Below.refl w.heap.size w);have H:(laws_daAutomaton.l0 k (mn (l0_3.length:Int) (l1_3.length:Int)) 0 a0_0 l0_1 l0_2 l0_3 a1_0 l1_1 l1_2 l1_3)=some r:=h;clear h;obtain ⟨ji3,hji3⟩:∃j_:Int,(mn (l0_3.length:Int) (l1_3.length:Int))=j_:=⟨_,rfl⟩
 replace H:(laws_daAutomaton.l0 k ji3 0 a0_0 l0_1 l0_2 l0_3 a1_0 l1_1 l1_2 l1_3)=some r:=by first|(rw [hji3] at H;exact H)|(simp only [hji3] at H ⊢;exact H)
 (try (have hji3l:0≤ji3:=by (rw [←hji3];unfold mn;(repeat' split)<;> omega)));(try (have hji3m:0≤ji3:=by omega));have hji3_:(if (l1_3.length:Int)<(l0_3.length:Int) then (l1_3.length:Int) else (l0_3.length:Int))=ji3:=hji3
 have hji3n_:(if l1_3.length<l0_3.length then (l1_3.length:Int) else (l0_3.length:Int))=ji3:=by rw [←hji3_];simp only [Int.ofNat_lt]
 have H':=am H;clear H;go_enter Try.func12,Try.ntmps12;go_wp2_with (first|((with_reducible refine gx 2 rfl ?_);(try (refine gate_guard (by rfl) ?_;dsimp only));refine be (cs:= #[.int .i64 a0_0, .slice A0_1 l0_1.length c0_1, .slice A0_2 l0_2.length c0_2, .slice A0_3 l0_3.length c0_3]) (t:=26) ?_;intro gb103 hg w4 hbox hb;have BK103:=am (hbox);have GW103:=gs hg (bz HB.out);have GE103:=gs hg (bz HB.out);replace HB:=hs HB hb;clear hb hbox hg)|((with_reducible refine gx 3 rfl ?_);(try (refine gate_guard (by rfl) ?_;dsimp only));refine be (cs:= #[.int .i64 a1_0, .slice A1_1 l1_1.length c1_1, .slice A1_2 l1_2.length c1_2, .slice A1_3 l1_3.length c1_3]) (t:=26) ?_;intro gb104 hg w5 hbox hb;have BK104:=am (hbox);have GW104:=gs hg (bw HB.out);have GE104:=gs hg (bw HB.out);replace HB:=hs HB hb;have NB103_104:=nl hg (kz BK103.out);have NB104_103:=nr hg (kz BK103.out);replace BK103:=bk BK103 hb;clear hb hbox hg;have hnb6:=NB103_104.out;have hnc6:=NB104_103.out;have hz7:=zf4 BK103.out;have hz8:=zf4 BK104.out))
 repeat (go_quiet (first|((with_reducible refine gx 2 rfl ?_);(try (refine gate_guard (by rfl) ?_;dsimp only));refine be (cs:= #[.int .i64 a0_0, .slice A0_1 l0_1.length c0_1, .slice A0_2 l0_2.length c0_2, .slice A0_3 l0_3.length c0_3]) (t:=26) ?_;intro gb103 hg w4 hbox hb;have BK103:=am (hbox);have GW103:=gs hg (bz HB.out);have GE103:=gs hg (bz HB.out);replace HB:=hs HB hb;clear hb hbox hg)|((with_reducible refine gx 3 rfl ?_);(try (refine gate_guard (by rfl) ?_;dsimp only));refine be (cs:= #[.int .i64 a1_0, .slice A1_1 l1_1.length c1_1, .slice A1_2 l1_2.length c1_2, .slice A1_3 l1_3.length c1_3]) (t:=26) ?_;intro gb104 hg w5 hbox hb;have BK104:=am (hbox);have GW104:=gs hg (bw HB.out);have GE104:=gs hg (bw HB.out);replace HB:=hs HB hb;have NB103_104:=nl hg (kz BK103.out);have NB104_103:=nr hg (kz BK103.out);replace BK103:=bk BK103 hb;clear hb hbox hg;have hnb6:=NB103_104.out;have hnc6:=NB104_103.out;have hz7:=zf4 BK103.out;have hz8:=zf4 BK104.out));try go_wp2_with (first|((with_reducible refine gx 2 rfl ?_);(try (refine gate_guard (by rfl) ?_;dsimp only));refine be (cs:= #[.int .i64 a0_0, .slice A0_1 l0_1.length c0_1, .slice A0_2 l0_2.length c0_2, .slice A0_3 l0_3.length c0_3]) (t:=26) ?_;intro gb103 hg w4 hbox hb;have BK103:=am (hbox);have GW103:=gs hg (bz HB.out);have GE103:=gs hg (bz HB.out);replace HB:=hs HB hb;clear hb hbox hg)|((with_reducible refine gx 3 rfl ?_);(try (refine gate_guard (by rfl) ?_;dsimp only));refine be (cs:= #[.int .i64 a1_0, .slice A1_1 l1_1.length c1_1, .slice A1_2 l1_2.length c1_2, .slice A1_3 l1_3.length c1_3]) (t:=26) ?_;intro gb104 hg w5 hbox hb;have BK104:=am (hbox);have GW104:=gs hg (bw HB.out);have GE104:=gs hg (bw HB.out);replace HB:=hs HB hb;have NB103_104:=nl hg (kz BK103.out);have NB104_103:=nr hg (kz BK103.out);replace BK103:=bk BK103 hb;clear hb hbox hg;have hnb6:=NB103_104.out;have hnc6:=NB104_103.out;have hz7:=zf4 BK103.out;have hz8:=zf4 BK104.out)))
 go_loopg [13] k (fun kq v13 w'=>∃(x13_1:Int),v13= .int .i64 x13_1∧Aside0 (laws_daAutomaton.l0 kq ji3 x13_1 a0_0 l0_1 l0_2 l0_3 a1_0 l1_1 l1_2 l1_3=some r)∧Aside0 (kq≤k)∧Aside0 (w'.heap[gb103]? =some (.cells #[.int .i64 a0_0,(.slice A0_1 l0_1.length c0_1),(.slice A0_2 l0_2.length c0_2),(.slice A0_3 l0_3.length c0_3)] 26 (0,0)))∧Aside0 (w'.heap[gb104]? =some (.cells #[.int .i64 a1_0,(.slice A1_1 l1_1.length c1_1),(.slice A1_2 l1_2.length c1_2),(.slice A1_3 l1_3.length c1_3)] 26 (0,0)))∧Aside0 (Below w.heap.size w w'))
 case atStart=>exact ⟨(0),(by first|rfl|(simp;done)|(simp [*];done)),H',⟨Nat.le_refl _⟩,⟨kz BK103.out⟩,⟨kz BK104.out⟩,⟨by exact bw HB.out⟩⟩
 case round=>
  clear H';(try clear c1);(try clear p2);(try clear c6);obtain ⟨x13_1,rfl,HA,HK1,BK103,BK104,HB⟩:=hrel
  cases gk with
  |zero=>exact absurd HA.out (by simp [laws_daAutomaton.l0])
  |succ k1=>
   have H:=HA.out;clear HA;simp only [laws_daAutomaton.l0] at H;by_cases c9:x13_1<ji3
   ·rw [if_pos c9] at H;have c9b0:=decide_eq_true c9;clear c9;by_cases c10:0≤x13_1
    ·rw [if_pos c10] at H;have c10b0:=decide_eq_true c10;clear c10;by_cases c11:x13_1<(l0_3.length:Int)
     ·rw [if_pos c11] at H;have c11b0:=decide_eq_true c11;clear c11;by_cases c12:x13_1<(l1_3.length:Int)
      ·rw [if_pos c12] at H;have c12b0:=decide_eq_true c12;clear c12;by_cases c13:(!(((rd_T32 l0_3 x13_1).f0)==((rd_T32 l1_3 x13_1).f0))||(!((((rd_T32 l0_3 x13_1).f1).toList)==(((rd_T32 l1_3 x13_1).f1).toList))||(!(((rd_T32 l0_3 x13_1).f2)==((rd_T32 l1_3 x13_1).f2))||(!(((rd_T32 l0_3 x13_1).f3)==((rd_T32 l1_3 x13_1).f3))))))=true
       ·rw [if_pos c13] at H;have c13b0:(!(((rd_T32 l0_3 x13_1).f0)==((rd_T32 l1_3 x13_1).f0))||(!((((rd_T32 l0_3 x13_1).f1).toList)==(((rd_T32 l1_3 x13_1).f1).toList))||(!(((rd_T32 l0_3 x13_1).f2)==((rd_T32 l1_3 x13_1).f2))||(!(((rd_T32 l0_3 x13_1).f3)==((rd_T32 l1_3 x13_1).f3))))))=true:=c13;clear c13;obtain rfl:=Option.some.inj H;have hnb14:=NB103_104.out;have hnc14:=NB104_103.out;have hz15:=zf4 BK103.out;have p105:0≤(x13_1:Int):=da;have q105:x13_1<(l0_3.length:Int):=da;obtain ⟨ad105,e105,hx105_0,hx105_1,hx105_2,hx105_3⟩:=at_T32 HR0_3.out x13_1 p105 q105;cases e105;replace hx105_0:=lx (bw HB.out) hx105_0;replace hx105_1:=lx (bw HB.out) hx105_1;replace hx105_2:=lx (bw HB.out) hx105_2;replace hx105_3:=lx (bw HB.out) hx105_3;replace p105:=eq_true p105;replace q105:=eq_true q105;have hz16:=zf4 BK104.out;have p106:0≤(x13_1:Int):=da;have q106:x13_1<(l1_3.length:Int):=da;obtain ⟨ad106,e106,hx106_0,hx106_1,hx106_2,hx106_3⟩:=at_T32 HR1_3.out x13_1 p106 q106;cases e106;replace hx106_0:=lx (bw HB.out) hx106_0;replace hx106_1:=lx (bw HB.out) hx106_1;replace hx106_2:=lx (bw HB.out) hx106_2;replace hx106_3:=lx (bw HB.out) hx106_3;replace p106:=eq_true p106;replace q106:=eq_true q106;go_wp2
        repeat (go_quiet (fail);try go_wp2)
        go_ret;exact ⟨by first|rfl|(simp [errW_none,errW_some]<;> rfl)|(simp only [←hji3];first|rfl|(simp [errW_none,errW_some]<;> rfl))|(simp [*,errW_none,errW_some]<;> rfl),by exact bw HB.out⟩
       ·rw [if_neg c13] at H
        have c13b0:(!(((rd_T32 l0_3 x13_1).f0)==((rd_T32 l1_3 x13_1).f0))||(!((((rd_T32 l0_3 x13_1).f1).toList)==(((rd_T32 l1_3 x13_1).f1).toList))||(!(((rd_T32 l0_3 x13_1).f2)==((rd_T32 l1_3 x13_1).f2))||(!(((rd_T32 l0_3 x13_1).f3)==((rd_T32 l1_3 x13_1).f3))))))=false:=by simpa using c13
        clear c13;have H':=am H;clear H;have hnb17:=NB103_104.out;have hnc17:=NB104_103.out;have hz18:=zf4 BK103.out;have p105:0≤(x13_1:Int):=da;have q105:x13_1<(l0_3.length:Int):=da;obtain ⟨ad105,e105,hx105_0,hx105_1,hx105_2,hx105_3⟩:=at_T32 HR0_3.out x13_1 p105 q105;cases e105;replace hx105_0:=lx (bw HB.out) hx105_0;replace hx105_1:=lx (bw HB.out) hx105_1;replace hx105_2:=lx (bw HB.out) hx105_2;replace hx105_3:=lx (bw HB.out) hx105_3;replace p105:=eq_true p105;replace q105:=eq_true q105;have hz19:=zf4 BK104.out;have p106:0≤(x13_1:Int):=da;have q106:x13_1<(l1_3.length:Int):=da;obtain ⟨ad106,e106,hx106_0,hx106_1,hx106_2,hx106_3⟩:=at_T32 HR1_3.out x13_1 p106 q106;cases e106;replace hx106_0:=lx (bw HB.out) hx106_0;replace hx106_1:=lx (bw HB.out) hx106_1;replace hx106_2:=lx (bw HB.out) hx106_2;replace hx106_3:=lx (bw HB.out) hx106_3;replace p106:=eq_true p106;replace q106:=eq_true q106;go_wp2
        repeat (go_quiet (fail);try go_wp2)
        go_roundg k1
        case measure=>have:=HK1.out;omega
        case rel=>exact ⟨(wrap64 (x13_1+1)),(by first|rfl|(simp;done)|(simp [*];done)),H',⟨by have:=HK1.out;omega⟩,⟨kz BK103.out⟩,⟨kz BK104.out⟩,⟨by exact bw HB.out⟩⟩
      ·rw [if_neg c12] at H;exact absurd H (by simp)
     ·rw [if_neg c11] at H;exact absurd H (by simp)
    ·rw [if_neg c10] at H;exact absurd H (by simp)
   ·rw [if_neg c9] at H;have c9b0:decide (x13_1<ji3)=false:=decide_eq_false c9;clear c9;by_cases c20:a0_0=a1_0
    ·rw [if_pos c20] at H;have c20b0:(a0_0==a1_0)=true:=beq_iff_eq.mpr c20;have c20b1:(a0_0 != a1_0)=false:=bne_eq_false_iff_eq.mpr c20;clear c20;obtain ⟨t107,A21,H⟩:=bO H;(try dsimp only at H);by_cases c22:t107=true
     ·subst c22
      have H1:((laws_daSame.f k1 l0_2 l1_2).bind fun t108=>(if t108=true then (some ((l0_3.length:Int)==(l1_3.length:Int))) else (some false)))=some r:=by rw [if_pos rfl] at H;exact H
      clear H;have H:=H1;clear H1;obtain ⟨t108,A23,H⟩:=bO H;(try dsimp only at H);by_cases c24:t108=true
      ·subst c24
       have H1:(some ((l0_3.length:Int)==(l1_3.length:Int)))=some r:=by rw [if_pos rfl] at H;exact H
       clear H;have H:=H1;clear H1;obtain rfl:=Option.some.inj H;have hnb25:=NB103_104.out;have hnc25:=NB104_103.out;have hz26:=zf4 BK103.out;have hz27:=zf4 BK104.out;go_wp2_with (first|(go_at_call 13;(with_reducible refine (laws_daSame.calls k1 _ _ l0_1 _ _ l1_1 true _ ?_ ?_ ?_ ?_ A21.out).mono ?_);exact cc (Kd.C_below HR0_1.out HB.out);exact HC0_1.out;exact cc (Kd.C_below HR1_1.out HB.out);exact HC1_1.out;rintro e w28 ⟨rfl,hb⟩;replace BK103:=bk BK103 hb;replace BK104:=bk BK104 hb;replace HB:=hs HB hb;(try clear hb);have hz29:=zf4 BK103.out;have hz30:=zf4 BK104.out)|(go_at_call 13;(with_reducible refine (laws_daSame.calls k1 _ _ l0_2 _ _ l1_2 true _ ?_ ?_ ?_ ?_ A23.out).mono ?_);exact cc (Kd.C_below HR0_2.out HB.out);exact HC0_2.out;exact cc (Kd.C_below HR1_2.out HB.out);exact HC1_2.out;rintro e w31 ⟨rfl,hb⟩;replace BK103:=bk BK103 hb;replace BK104:=bk BK104 hb;replace HB:=hs HB hb;(try clear hb);have hz32:=zf4 BK103.out;have hz33:=zf4 BK104.out))
       repeat (go_quiet (first|(go_at_call 13;(with_reducible refine (laws_daSame.calls k1 _ _ l0_1 _ _ l1_1 true _ ?_ ?_ ?_ ?_ A21.out).mono ?_);exact cc (Kd.C_below HR0_1.out HB.out);exact HC0_1.out;exact cc (Kd.C_below HR1_1.out HB.out);exact HC1_1.out;rintro e w28 ⟨rfl,hb⟩;replace BK103:=bk BK103 hb;replace BK104:=bk BK104 hb;replace HB:=hs HB hb;(try clear hb);have hz29:=zf4 BK103.out;have hz30:=zf4 BK104.out)|(go_at_call 13;(with_reducible refine (laws_daSame.calls k1 _ _ l0_2 _ _ l1_2 true _ ?_ ?_ ?_ ?_ A23.out).mono ?_);exact cc (Kd.C_below HR0_2.out HB.out);exact HC0_2.out;exact cc (Kd.C_below HR1_2.out HB.out);exact HC1_2.out;rintro e w31 ⟨rfl,hb⟩;replace BK103:=bk BK103 hb;replace BK104:=bk BK104 hb;replace HB:=hs HB hb;(try clear hb);have hz32:=zf4 BK103.out;have hz33:=zf4 BK104.out));try go_wp2_with (first|(go_at_call 13;(with_reducible refine (laws_daSame.calls k1 _ _ l0_1 _ _ l1_1 true _ ?_ ?_ ?_ ?_ A21.out).mono ?_);exact cc (Kd.C_below HR0_1.out HB.out);exact HC0_1.out;exact cc (Kd.C_below HR1_1.out HB.out);exact HC1_1.out;rintro e w28 ⟨rfl,hb⟩;replace BK103:=bk BK103 hb;replace BK104:=bk BK104 hb;replace HB:=hs HB hb;(try clear hb);have hz29:=zf4 BK103.out;have hz30:=zf4 BK104.out)|(go_at_call 13;(with_reducible refine (laws_daSame.calls k1 _ _ l0_2 _ _ l1_2 true _ ?_ ?_ ?_ ?_ A23.out).mono ?_);exact cc (Kd.C_below HR0_2.out HB.out);exact HC0_2.out;exact cc (Kd.C_below HR1_2.out HB.out);exact HC1_2.out;rintro e w31 ⟨rfl,hb⟩;replace BK103:=bk BK103 hb;replace BK104:=bk BK104 hb;replace HB:=hs HB hb;(try clear hb);have hz32:=zf4 BK103.out;have hz33:=zf4 BK104.out)))
       go_ret;exact ⟨by first|rfl|(simp [errW_none,errW_some]<;> rfl)|(simp only [←hji3];first|rfl|(simp [errW_none,errW_some]<;> rfl))|(simp [*,errW_none,errW_some]<;> rfl),by exact bw HB.out⟩
      ·replace c24:=Bool.eq_false_iff.mpr c24;subst c24
       have H1:(some false)=some r:=by rw [if_neg (show ¬(false=true) by decide)] at H;exact H
       clear H;have H:=H1;clear H1;obtain rfl:=Option.some.inj H;have hnb34:=NB103_104.out;have hnc34:=NB104_103.out;have hz35:=zf4 BK103.out;have hz36:=zf4 BK104.out;go_wp2_with (first|(go_at_call 13;(with_reducible refine (laws_daSame.calls k1 _ _ l0_1 _ _ l1_1 true _ ?_ ?_ ?_ ?_ A21.out).mono ?_);exact cc (Kd.C_below HR0_1.out HB.out);exact HC0_1.out;exact cc (Kd.C_below HR1_1.out HB.out);exact HC1_1.out;rintro e w37 ⟨rfl,hb⟩;replace BK103:=bk BK103 hb;replace BK104:=bk BK104 hb;replace HB:=hs HB hb;(try clear hb);have hz38:=zf4 BK103.out;have hz39:=zf4 BK104.out)|(go_at_call 13;(with_reducible refine (laws_daSame.calls k1 _ _ l0_2 _ _ l1_2 false _ ?_ ?_ ?_ ?_ A23.out).mono ?_);exact cc (Kd.C_below HR0_2.out HB.out);exact HC0_2.out;exact cc (Kd.C_below HR1_2.out HB.out);exact HC1_2.out;rintro e w40 ⟨rfl,hb⟩;replace BK103:=bk BK103 hb;replace BK104:=bk BK104 hb;replace HB:=hs HB hb;(try clear hb)))
       repeat (go_quiet (first|(go_at_call 13;(with_reducible refine (laws_daSame.calls k1 _ _ l0_1 _ _ l1_1 true _ ?_ ?_ ?_ ?_ A21.out).mono ?_);exact cc (Kd.C_below HR0_1.out HB.out);exact HC0_1.out;exact cc (Kd.C_below HR1_1.out HB.out);exact HC1_1.out;rintro e w37 ⟨rfl,hb⟩;replace BK103:=bk BK103 hb;replace BK104:=bk BK104 hb;replace HB:=hs HB hb;(try clear hb);have hz38:=zf4 BK103.out;have hz39:=zf4 BK104.out)|(go_at_call 13;(with_reducible refine (laws_daSame.calls k1 _ _ l0_2 _ _ l1_2 false _ ?_ ?_ ?_ ?_ A23.out).mono ?_);exact cc (Kd.C_below HR0_2.out HB.out);exact HC0_2.out;exact cc (Kd.C_below HR1_2.out HB.out);exact HC1_2.out;rintro e w40 ⟨rfl,hb⟩;replace BK103:=bk BK103 hb;replace BK104:=bk BK104 hb;replace HB:=hs HB hb;(try clear hb)));try go_wp2_with (first|(go_at_call 13;(with_reducible refine (laws_daSame.calls k1 _ _ l0_1 _ _ l1_1 true _ ?_ ?_ ?_ ?_ A21.out).mono ?_);exact cc (Kd.C_below HR0_1.out HB.out);exact HC0_1.out;exact cc (Kd.C_below HR1_1.out HB.out);exact HC1_1.out;rintro e w37 ⟨rfl,hb⟩;replace BK103:=bk BK103 hb;replace BK104:=bk BK104 hb;replace HB:=hs HB hb;(try clear hb);have hz38:=zf4 BK103.out;have hz39:=zf4 BK104.out)|(go_at_call 13;(with_reducible refine (laws_daSame.calls k1 _ _ l0_2 _ _ l1_2 false _ ?_ ?_ ?_ ?_ A23.out).mono ?_);exact cc (Kd.C_below HR0_2.out HB.out);exact HC0_2.out;exact cc (Kd.C_below HR1_2.out HB.out);exact HC1_2.out;rintro e w40 ⟨rfl,hb⟩;replace BK103:=bk BK103 hb;replace BK104:=bk BK104 hb;replace HB:=hs HB hb;(try clear hb))))
       go_ret;exact ⟨by first|rfl|(simp [errW_none,errW_some]<;> rfl)|(simp only [←hji3];first|rfl|(simp [errW_none,errW_some]<;> rfl))|(simp [*,errW_none,errW_some]<;> rfl),by exact bw HB.out⟩
     ·replace c22:=Bool.eq_false_iff.mpr c22;subst c22
      have H1:(some false)=some r:=by rw [if_neg (show ¬(false=true) by decide)] at H;exact H
      clear H;have H:=H1;clear H1;obtain rfl:=Option.some.inj H;have hnb41:=NB103_104.out;have hnc41:=NB104_103.out;have hz42:=zf4 BK103.out;have hz43:=zf4 BK104.out;go_wp2_with (first|(go_at_call 13;(with_reducible refine (laws_daSame.calls k1 _ _ l0_1 _ _ l1_1 false _ ?_ ?_ ?_ ?_ A21.out).mono ?_);exact cc (Kd.C_below HR0_1.out HB.out);exact HC0_1.out;exact cc (Kd.C_below HR1_1.out HB.out);exact HC1_1.out;rintro e w44 ⟨rfl,hb⟩;replace BK103:=bk BK103 hb;replace BK104:=bk BK104 hb;replace HB:=hs HB hb;(try clear hb)))
      repeat (go_quiet (first|(go_at_call 13;(with_reducible refine (laws_daSame.calls k1 _ _ l0_1 _ _ l1_1 false _ ?_ ?_ ?_ ?_ A21.out).mono ?_);exact cc (Kd.C_below HR0_1.out HB.out);exact HC0_1.out;exact cc (Kd.C_below HR1_1.out HB.out);exact HC1_1.out;rintro e w44 ⟨rfl,hb⟩;replace BK103:=bk BK103 hb;replace BK104:=bk BK104 hb;replace HB:=hs HB hb;(try clear hb)));try go_wp2_with (first|(go_at_call 13;(with_reducible refine (laws_daSame.calls k1 _ _ l0_1 _ _ l1_1 false _ ?_ ?_ ?_ ?_ A21.out).mono ?_);exact cc (Kd.C_below HR0_1.out HB.out);exact HC0_1.out;exact cc (Kd.C_below HR1_1.out HB.out);exact HC1_1.out;rintro e w44 ⟨rfl,hb⟩;replace BK103:=bk BK103 hb;replace BK104:=bk BK104 hb;replace HB:=hs HB hb;(try clear hb))))
      go_ret;exact ⟨by first|rfl|(simp [errW_none,errW_some]<;> rfl)|(simp only [←hji3];first|rfl|(simp [errW_none,errW_some]<;> rfl))|(simp [*,errW_none,errW_some]<;> rfl),by exact bw HB.out⟩
    ·rw [if_neg c20] at H;have c20b0:(a0_0==a1_0)=false:=beq_eq_false_iff_ne.mpr c20;have c20b1:(a0_0 != a1_0)=true:=bne_iff_ne.mpr c20;obtain rfl:=Option.some.inj H;have hnb45:=NB103_104.out;have hnc45:=NB104_103.out;have hz46:=zf4 BK103.out;have hz47:=zf4 BK104.out;go_wp2
     repeat (go_quiet (fail);try go_wp2)
     go_ret;exact ⟨by first|rfl|(simp [errW_none,errW_some]<;> rfl)|(simp only [←hji3];first|rfl|(simp [errW_none,errW_some]<;> rfl))|(simp [*,errW_none,errW_some]<;> rfl),by exact bw HB.out⟩

/-! ### impl_statesOk: function 60 -/
def impl_statesOk.l0:Nat→List Int→Int→List Int→Int→Int→Option (Bool)
 |0,_,_,_,_,_=>none
 |k+1,x0,x1,x7,x8,x9=>if x9<x8 then (if 0≤x9 then (if x9<(x7.length:Int) then (if (rd x7 x9)<0 then (some false) else (if (rd x7 x9)≥x1 then (some false) else (if x9>0 then (if 0≤(wrap64 (x9 - 1)) then (if (wrap64 (x9 - 1))<(x0.length:Int) then (if (rd x0 (wrap64 (x9 - 1)))≥(rd x7 x9) then (some false) else (impl_statesOk.l0 k x0 x1 x7 x8 (wrap64 (x9+1)))) else (none)) else (none)) else (impl_statesOk.l0 k x0 x1 x7 x8 (wrap64 (x9+1)))))) else (none)) else (none)) else (some true)
def impl_statesOk.f (k:Nat) (l0:List Int) (a1:Int):Option (Bool):=impl_statesOk.l0 k l0 a1 l0 (l0.length:Int) 0
theorem impl_statesOk.mono_l:∀k,(∀y0 y1 y2 y3 y4,LeO (impl_statesOk.l0 k y0 y1 y2 y3 y4) (impl_statesOk.l0 (k+1) y0 y1 y2 y3 y4))
 |0=>fun _ _ _ _ _ r h=>by simp [impl_statesOk.l0] at h
 |k+1=>by
  have ih0:=impl_statesOk.mono_l k
  ·intro y0 y1 y2 y3 y4;unfold impl_statesOk.l0;repeat' first
   |(with_reducible exact ih0 _ _ _ _ _)
   |(with_reducible exact LeO.refl _)
   |(with_reducible exact LeO.none _)
   |(with_reducible refine LeO.ite ?_ ?_)
   |(with_reducible refine LeO.bind ?_ (fun _=> ?_))
theorem impl_statesOk.mono:∀a0 a1 k,LeO (impl_statesOk.f k a0 a1) (impl_statesOk.f (k+1) a0 a1):=by
 intro a0 a1 k;have ih0:=impl_statesOk.mono_l k;unfold impl_statesOk.f;repeat' first
   |(with_reducible exact ih0 _ _ _ _ _)
   |(with_reducible exact LeO.refl _)
   |(with_reducible exact LeO.none _)
   |(with_reducible refine LeO.ite ?_ ?_)
   |(with_reducible refine LeO.bind ?_ (fun _=> ?_))
set_option maxHeartbeats 8000000 in
set_option maxRecDepth 100000 in
theorem impl_statesOk.calls (k:Nat) (A0:Option Addr) (c0:Nat) (l0:List Int) (a1:Int) (r:Bool) (w:World) (hr0:Kd.C (Kd.int .i64) w A0 l0.length l0) (hc0:l0.length≤c0) (h:impl_statesOk.f k l0 a1=some r):
  Calls Try.prog 60 #[.slice A0 l0.length c0, .int .i64 a1] w fun e w'=>e= .returned (.bool r)∧Drawn0 w w':=by
 have HR0:=am hr0;have HC0:=am hc0;clear hr0 hc0;have H:(impl_statesOk.l0 k l0 a1 l0 (l0.length:Int) 0)=some r:=h;clear h;have H':=am H;clear H;go_enter Try.func60,Try.ntmps60;go_wp2;go_loopg [9] k (fun kq v9 w'=>∃(x9_1:Int),v9= .int .i64 x9_1∧Aside0 (impl_statesOk.l0 kq l0 a1 l0 (l0.length:Int) x9_1=some r)∧Aside0 (kq≤k)∧Drawn0 w w')
 case atStart=>exact ⟨(0),(by first|rfl|(simp;done)|(simp [*];done)),H',⟨Nat.le_refl _⟩,by repeat (first|exact Drawn0.refl _|apply Drawn0.step)⟩
 case round=>
  clear H';(try clear p2);obtain ⟨x9_1,rfl,HA,HK1,⟨m1,rfl⟩⟩:=hrel
  cases gk with
  |zero=>exact absurd HA.out (by simp [impl_statesOk.l0])
  |succ k1=>
   have H:=HA.out;clear HA;simp only [impl_statesOk.l0] at H;by_cases c3:x9_1<(l0.length:Int)
   ·rw [if_pos c3] at H;have c3b0:=decide_eq_true c3;clear c3;by_cases c4:0≤x9_1
    ·rw [if_pos c4] at H;have c4b0:=decide_eq_true c4;clear c4;by_cases c5:x9_1<(l0.length:Int)
     ·rw [if_pos c5] at H;have c5b0:=decide_eq_true c5;clear c5;by_cases c6:(rd l0 x9_1)<0
      ·rw [if_pos c6] at H;have c6b0:=decide_eq_true c6;clear c6;obtain rfl:=Option.some.inj H;have p109:0≤(x9_1:Int):=da;have q109:x9_1<(l0.length:Int):=da;obtain ⟨ad109,e109,hx109_0⟩:=Kd.at_int HR0.out x9_1 p109 q109;cases e109;replace p109:=eq_true p109;replace q109:=eq_true q109;go_wp2;go_ret;exact ⟨by first|rfl|(simp;done)|(simp [*];done),by repeat (first|exact Drawn0.refl _|apply Drawn0.step)⟩
      ·rw [if_neg c6] at H;have c6b0:=decide_eq_false c6;clear c6;by_cases c7:(rd l0 x9_1)≥a1
       ·rw [if_pos c7] at H;have c7b0:decide (a1≤(rd l0 x9_1))=true:=decide_eq_true c7;clear c7;obtain rfl:=Option.some.inj H;have p109:0≤(x9_1:Int):=da;have q109:x9_1<(l0.length:Int):=da;obtain ⟨ad109,e109,hx109_0⟩:=Kd.at_int HR0.out x9_1 p109 q109;cases e109;replace p109:=eq_true p109;replace q109:=eq_true q109;go_wp2;go_ret;exact ⟨by first|rfl|(simp;done)|(simp [*];done),by repeat (first|exact Drawn0.refl _|apply Drawn0.step)⟩
       ·rw [if_neg c7] at H;have c7b0:decide (a1≤(rd l0 x9_1))=false:=decide_eq_false c7;clear c7;by_cases c8:x9_1>0
        ·rw [if_pos c8] at H;have c8b0:decide (0<x9_1)=true:=decide_eq_true c8;clear c8;obtain ⟨ji9,hji9⟩:∃j_:Int,(wrap64 (x9_1 - 1))=j_:=⟨_,rfl⟩
         replace H:(if 0≤(ji9) then (if (ji9)<(l0.length:Int) then (if (rd l0 (ji9))≥(rd l0 x9_1) then (some false) else (impl_statesOk.l0 k1 l0 a1 l0 (l0.length:Int) (wrap64 (x9_1+1)))) else (none)) else (none))=some r:=by first|(rw [hji9] at H;exact H)|(simp only [hji9] at H ⊢;exact H)
         have hji9w:(IntKind.i64.wrap (x9_1 - 1))=ji9:=(i64_w _).trans hji9;by_cases c10:0≤(ji9)
         ·rw [if_pos c10] at H;have c10b0:=decide_eq_true c10;clear c10;by_cases c11:(ji9)<(l0.length:Int)
          ·rw [if_pos c11] at H;have c11b0:=decide_eq_true c11;clear c11;by_cases c12:(rd l0 (ji9))≥(rd l0 x9_1)
           ·rw [if_pos c12] at H;have c12b0:decide ((rd l0 x9_1)≤(rd l0 (ji9)))=true:=decide_eq_true c12;clear c12;obtain rfl:=Option.some.inj H;have p109:0≤(x9_1:Int):=da;have q109:x9_1<(l0.length:Int):=da;obtain ⟨ad109,e109,hx109_0⟩:=Kd.at_int HR0.out x9_1 p109 q109;cases e109;replace p109:=eq_true p109;replace q109:=eq_true q109;have p110:0≤((ji9):Int):=da;have q110:(ji9)<(l0.length:Int):=da;obtain ⟨ad110,e110,hx110_0⟩:=Kd.at_int HR0.out (ji9) p110 q110;obtain rfl:ad109=ad110:=(by injection e110);replace p110:=eq_true p110;replace q110:=eq_true q110;go_wp2;go_ret;exact ⟨by first|rfl|(simp;done)|(simp only [←hji9]<;> (first|rfl|simp))|(simp [*];done),by repeat (first|exact Drawn0.refl _|apply Drawn0.step)⟩
           ·rw [if_neg c12] at H;have c12b0:decide ((rd l0 x9_1)≤(rd l0 (ji9)))=false:=decide_eq_false c12;clear c12;have H':=am H;clear H;have p109:0≤(x9_1:Int):=da;have q109:x9_1<(l0.length:Int):=da;obtain ⟨ad109,e109,hx109_0⟩:=Kd.at_int HR0.out x9_1 p109 q109;cases e109;replace p109:=eq_true p109;replace q109:=eq_true q109;have p110:0≤((ji9):Int):=da;have q110:(ji9)<(l0.length:Int):=da;obtain ⟨ad110,e110,hx110_0⟩:=Kd.at_int HR0.out (ji9) p110 q110;obtain rfl:ad109=ad110:=(by injection e110);replace p110:=eq_true p110;replace q110:=eq_true q110;go_wp2;go_roundg k1
            case measure=>have:=HK1.out;omega
            case rel=>exact ⟨(wrap64 (x9_1+1)),(by first|rfl|(simp;done)|(simp [*];done)),H',⟨by have:=HK1.out;omega⟩,by repeat (first|exact Drawn0.refl _|apply Drawn0.step)⟩
          ·rw [if_neg c11] at H;exact absurd H (by simp)
         ·rw [if_neg c10] at H;exact absurd H (by simp)
        ·rw [if_neg c8] at H;have c8b0:decide (0<x9_1)=false:=decide_eq_false c8;clear c8;have H':=am H;clear H;have p109:0≤(x9_1:Int):=da;have q109:x9_1<(l0.length:Int):=da;obtain ⟨ad109,e109,hx109_0⟩:=Kd.at_int HR0.out x9_1 p109 q109;cases e109;replace p109:=eq_true p109;replace q109:=eq_true q109;go_wp2;go_roundg k1
         case measure=>have:=HK1.out;omega
         case rel=>exact ⟨(wrap64 (x9_1+1)),(by first|rfl|(simp;done)|(simp [*];done)),H',⟨by have:=HK1.out;omega⟩,by repeat (first|exact Drawn0.refl _|apply Drawn0.step)⟩
     ·rw [if_neg c5] at H;exact absurd H (by simp)
    ·rw [if_neg c4] at H;exact absurd H (by simp)
   ·rw [if_neg c3] at H;have c3b0:decide (x9_1<(l0.length:Int))=false:=decide_eq_false c3;clear c3;obtain rfl:=Option.some.inj H;go_wp2;go_ret;exact ⟨by first|rfl|(simp;done)|(simp [*];done),by repeat (first|exact Drawn0.refl _|apply Drawn0.step)⟩

/-! ### cmp_Or_int: function 85 -/
def cmp_Or_int.l0:Nat→Int→List Int→Int→Int→Option (Int)
 |0,_,_,_,_=>none
 |k+1,x3,x6,x7,x8=>if x8<x7 then (if 0≤x8 then (if x8<(x6.length:Int) then (if (rd x6 x8)=x3 then (cmp_Or_int.l0 k x3 x6 x7 (wrap64 (x8+1))) else (some (rd x6 x8))) else (none)) else (none)) else (some x3)
def cmp_Or_int.f (k:Nat) (l0:List Int):Option (Int):=cmp_Or_int.l0 k 0 l0 (l0.length:Int) 0
theorem cmp_Or_int.mono_l:∀k,(∀y0 y1 y2 y3,LeO (cmp_Or_int.l0 k y0 y1 y2 y3) (cmp_Or_int.l0 (k+1) y0 y1 y2 y3))
 |0=>fun _ _ _ _ r h=>by simp [cmp_Or_int.l0] at h
 |k+1=>by
  have ih0:=cmp_Or_int.mono_l k
  ·intro y0 y1 y2 y3;unfold cmp_Or_int.l0;repeat' first
   |(with_reducible exact ih0 _ _ _ _)
   |(with_reducible exact LeO.refl _)
   |(with_reducible exact LeO.none _)
   |(with_reducible refine LeO.ite ?_ ?_)
   |(with_reducible refine LeO.bind ?_ (fun _=> ?_))
theorem cmp_Or_int.mono:∀a0 k,LeO (cmp_Or_int.f k a0) (cmp_Or_int.f (k+1) a0):=by
 intro a0 k;have ih0:=cmp_Or_int.mono_l k;unfold cmp_Or_int.f;repeat' first
   |(with_reducible exact ih0 _ _ _ _)
   |(with_reducible exact LeO.refl _)
   |(with_reducible exact LeO.none _)
   |(with_reducible refine LeO.ite ?_ ?_)
   |(with_reducible refine LeO.bind ?_ (fun _=> ?_))
set_option maxHeartbeats 8000000 in
set_option maxRecDepth 100000 in
theorem cmp_Or_int.calls (k:Nat) (A0:Option Addr) (c0:Nat) (l0:List Int) (r:Int) (w:World) (hr0:Kd.C (Kd.int .i64) w A0 l0.length l0) (hc0:l0.length≤c0) (h:cmp_Or_int.f k l0=some r):
  Calls Try.prog 85 #[.slice A0 l0.length c0] w fun e w'=>e= .returned (.int .i64 r)∧Drawn0 w w':=by
 have HR0:=am hr0;have HC0:=am hc0;clear hr0 hc0;have H:(cmp_Or_int.l0 k 0 l0 (l0.length:Int) 0)=some r:=h;clear h;have H':=am H;clear H;go_enter Try.func85,Try.ntmps85;go_wp2;go_loopg [8] k (fun kq v8 w'=>∃(x8_1:Int),v8= .int .i64 x8_1∧Aside0 (cmp_Or_int.l0 kq 0 l0 (l0.length:Int) x8_1=some r)∧Aside0 (kq≤k)∧Drawn0 w w')
 case atStart=>exact ⟨(0),(by first|rfl|(simp;done)|(simp [*];done)),H',⟨Nat.le_refl _⟩,by repeat (first|exact Drawn0.refl _|apply Drawn0.step)⟩
 case round=>
  clear H';obtain ⟨x8_1,rfl,HA,HK1,⟨m1,rfl⟩⟩:=hrel
  cases gk with
  |zero=>exact absurd HA.out (by simp [cmp_Or_int.l0])
  |succ k1=>
   have H:=HA.out;clear HA;simp only [cmp_Or_int.l0] at H;by_cases c2:x8_1<(l0.length:Int)
   ·rw [if_pos c2] at H;have c2b0:=decide_eq_true c2;clear c2;by_cases c3:0≤x8_1
    ·rw [if_pos c3] at H;have c3b0:=decide_eq_true c3;clear c3;by_cases c4:x8_1<(l0.length:Int)
     ·rw [if_pos c4] at H;have c4b0:=decide_eq_true c4;clear c4;by_cases c5:(rd l0 x8_1)=0
      ·rw [if_pos c5] at H;have c5b0:((rd l0 x8_1)==0)=true:=beq_iff_eq.mpr c5;have c5b1:((rd l0 x8_1) != 0)=false:=bne_eq_false_iff_eq.mpr c5;clear c5;have H':=am H;clear H;have p111:0≤(x8_1:Int):=da;have q111:x8_1<(l0.length:Int):=da;obtain ⟨ad111,e111,hx111_0⟩:=Kd.at_int HR0.out x8_1 p111 q111;cases e111;replace p111:=eq_true p111;replace q111:=eq_true q111;go_wp2;go_roundg k1
       case measure=>have:=HK1.out;omega
       case rel=>exact ⟨(wrap64 (x8_1+1)),(by first|rfl|(simp;done)|(simp [*];done)),H',⟨by have:=HK1.out;omega⟩,by repeat (first|exact Drawn0.refl _|apply Drawn0.step)⟩
      ·rw [if_neg c5] at H;have c5b0:((rd l0 x8_1)==0)=false:=beq_eq_false_iff_ne.mpr c5;have c5b1:((rd l0 x8_1) != 0)=true:=bne_iff_ne.mpr c5;obtain rfl:=Option.some.inj H;have p111:0≤(x8_1:Int):=da;have q111:x8_1<(l0.length:Int):=da;obtain ⟨ad111,e111,hx111_0⟩:=Kd.at_int HR0.out x8_1 p111 q111;cases e111;replace p111:=eq_true p111;replace q111:=eq_true q111;go_wp2;go_ret;exact ⟨by first|rfl|(simp;done)|(simp [*];done),by repeat (first|exact Drawn0.refl _|apply Drawn0.step)⟩
     ·rw [if_neg c4] at H;exact absurd H (by simp)
    ·rw [if_neg c3] at H;exact absurd H (by simp)
   ·rw [if_neg c2] at H;have c2b0:decide (x8_1<(l0.length:Int))=false:=decide_eq_false c2;clear c2;obtain rfl:=Option.some.inj H;go_wp2;go_ret;exact ⟨by first|rfl|(simp;done)|(simp [*];done),by repeat (first|exact Drawn0.refl _|apply Drawn0.step)⟩

/-! ### cmp_isNaN_int: function 100 -/
def cmp_isNaN_int.f (a0:Int):Option (Bool):=some (a0 != a0)
set_option maxHeartbeats 8000000 in
set_option maxRecDepth 100000 in
theorem cmp_isNaN_int.calls (a0:Int) (r:Bool) (w:World) (h:cmp_isNaN_int.f a0=some r):
  Calls Try.prog 100 #[.int .i64 a0] w fun e w'=>e= .returned (.bool r)∧Drawn0 w w':=by
 have H:(some (a0 != a0))=some r:=h;clear h;obtain rfl:=Option.some.inj H;go_enter Try.func100,Try.ntmps100;go_wp2;go_ret;exact ⟨by first|rfl|(simp;done)|(simp [*];done),by repeat (first|exact Drawn0.refl _|apply Drawn0.step)⟩

/-! ### cmp_Compare_int: function 86 -/
def cmp_Compare_int.f (a0:Int) (a1:Int):Option (Int):=(cmp_isNaN_int.f a0).bind fun t112=>((cmp_isNaN_int.f a1).bind fun t113=>(if t112=true then (if t113=true then (some 0) else (some (-1))) else (if t113=true then (some 1) else (if a0<a1 then (some (-1)) else (if a0>a1 then (some 1) else (some 0))))))
set_option maxHeartbeats 8000000 in
set_option maxRecDepth 100000 in
theorem cmp_Compare_int.calls (a0:Int) (a1:Int) (r:Int) (w:World) (h:cmp_Compare_int.f a0 a1=some r):
  Calls Try.prog 86 #[.int .i64 a0, .int .i64 a1] w fun e w'=>e= .returned (.int .i64 r)∧Drawn0 w w':=by
 have H:((cmp_isNaN_int.f a0).bind fun t112=>((cmp_isNaN_int.f a1).bind fun t113=>(if t112=true then (if t113=true then (some 0) else (some (-1))) else (if t113=true then (some 1) else (if a0<a1 then (some (-1)) else (if a0>a1 then (some 1) else (some 0)))))))=some r:=h;clear h;obtain ⟨t112,A3,H⟩:=bO H;(try dsimp only at H);obtain ⟨t113,A4,H⟩:=bO H;(try dsimp only at H);by_cases c5:t112=true
 ·subst c5
  have H1:(if t113=true then (some 0) else (some (-1)))=some r:=by rw [if_pos rfl] at H;exact H
  clear H;have H:=H1;clear H1;by_cases c6:t113=true
  ·subst c6
   have H1:(some 0)=some r:=by rw [if_pos rfl] at H;exact H
   clear H;have H:=H1;clear H1;obtain rfl:=Option.some.inj H;go_enter Try.func86,Try.ntmps86;go_wp2_with (first|((with_reducible refine gy 100 rfl ?_);refine gl Try.func100 #[.int .i64 a1] ?_;(with_reducible refine (cmp_isNaN_int.calls a1 true _ A4.out).mono ?_);rintro e w' ⟨rfl,⟨nd,rfl⟩⟩;refine ⟨_,rfl,?_⟩)|((with_reducible refine gy 100 rfl ?_);refine gl Try.func100 #[.int .i64 a0] ?_;(with_reducible refine (cmp_isNaN_int.calls a0 true _ A3.out).mono ?_);rintro e w' ⟨rfl,⟨nd,rfl⟩⟩;refine ⟨_,rfl,?_⟩));go_ret;exact ⟨by first|rfl|(simp;done)|(simp [*];done),by repeat (first|exact Drawn0.refl _|apply Drawn0.step)⟩
  ·replace c6:=Bool.eq_false_iff.mpr c6;subst c6
   have H1:(some (-1))=some r:=by rw [if_neg (show ¬(false=true) by decide)] at H;exact H
   clear H;have H:=H1;clear H1;obtain rfl:=Option.some.inj H;go_enter Try.func86,Try.ntmps86;go_wp2_with (first|((with_reducible refine gy 100 rfl ?_);refine gl Try.func100 #[.int .i64 a1] ?_;(with_reducible refine (cmp_isNaN_int.calls a1 false _ A4.out).mono ?_);rintro e w' ⟨rfl,⟨nd,rfl⟩⟩;refine ⟨_,rfl,?_⟩)|((with_reducible refine gy 100 rfl ?_);refine gl Try.func100 #[.int .i64 a0] ?_;(with_reducible refine (cmp_isNaN_int.calls a0 true _ A3.out).mono ?_);rintro e w' ⟨rfl,⟨nd,rfl⟩⟩;refine ⟨_,rfl,?_⟩));go_ret;exact ⟨by first|rfl|(simp;done)|(simp [*];done),by repeat (first|exact Drawn0.refl _|apply Drawn0.step)⟩
 ·replace c5:=Bool.eq_false_iff.mpr c5;subst c5
  have H1:(if t113=true then (some 1) else (if a0<a1 then (some (-1)) else (if a0>a1 then (some 1) else (some 0))))=some r:=by rw [if_neg (show ¬(false=true) by decide)] at H;exact H
  clear H;have H:=H1;clear H1;by_cases c7:t113=true
  ·subst c7
   have H1:(some 1)=some r:=by rw [if_pos rfl] at H;exact H
   clear H;have H:=H1;clear H1;obtain rfl:=Option.some.inj H;go_enter Try.func86,Try.ntmps86;go_wp2_with (first|((with_reducible refine gy 100 rfl ?_);refine gl Try.func100 #[.int .i64 a1] ?_;(with_reducible refine (cmp_isNaN_int.calls a1 true _ A4.out).mono ?_);rintro e w' ⟨rfl,⟨nd,rfl⟩⟩;refine ⟨_,rfl,?_⟩)|((with_reducible refine gy 100 rfl ?_);refine gl Try.func100 #[.int .i64 a0] ?_;(with_reducible refine (cmp_isNaN_int.calls a0 false _ A3.out).mono ?_);rintro e w' ⟨rfl,⟨nd,rfl⟩⟩;refine ⟨_,rfl,?_⟩));go_ret;exact ⟨by first|rfl|(simp;done)|(simp [*];done),by repeat (first|exact Drawn0.refl _|apply Drawn0.step)⟩
  ·replace c7:=Bool.eq_false_iff.mpr c7;subst c7
   have H1:(if a0<a1 then (some (-1)) else (if a0>a1 then (some 1) else (some 0)))=some r:=by rw [if_neg (show ¬(false=true) by decide)] at H;exact H
   clear H;have H:=H1;clear H1;by_cases c8:a0<a1
   ·rw [if_pos c8] at H;have c8b0:=decide_eq_true c8;clear c8;obtain rfl:=Option.some.inj H;go_enter Try.func86,Try.ntmps86;go_wp2_with (first|((with_reducible refine gy 100 rfl ?_);refine gl Try.func100 #[.int .i64 a1] ?_;(with_reducible refine (cmp_isNaN_int.calls a1 false _ A4.out).mono ?_);rintro e w' ⟨rfl,⟨nd,rfl⟩⟩;refine ⟨_,rfl,?_⟩)|((with_reducible refine gy 100 rfl ?_);refine gl Try.func100 #[.int .i64 a0] ?_;(with_reducible refine (cmp_isNaN_int.calls a0 false _ A3.out).mono ?_);rintro e w' ⟨rfl,⟨nd,rfl⟩⟩;refine ⟨_,rfl,?_⟩));go_ret;exact ⟨by first|rfl|(simp;done)|(simp [*];done),by repeat (first|exact Drawn0.refl _|apply Drawn0.step)⟩
   ·rw [if_neg c8] at H;have c8b0:=decide_eq_false c8;clear c8;by_cases c9:a0>a1
    ·rw [if_pos c9] at H;have c9b0:decide (a1<a0)=true:=decide_eq_true c9;clear c9;obtain rfl:=Option.some.inj H;go_enter Try.func86,Try.ntmps86;go_wp2_with (first|((with_reducible refine gy 100 rfl ?_);refine gl Try.func100 #[.int .i64 a1] ?_;(with_reducible refine (cmp_isNaN_int.calls a1 false _ A4.out).mono ?_);rintro e w' ⟨rfl,⟨nd,rfl⟩⟩;refine ⟨_,rfl,?_⟩)|((with_reducible refine gy 100 rfl ?_);refine gl Try.func100 #[.int .i64 a0] ?_;(with_reducible refine (cmp_isNaN_int.calls a0 false _ A3.out).mono ?_);rintro e w' ⟨rfl,⟨nd,rfl⟩⟩;refine ⟨_,rfl,?_⟩));go_ret;exact ⟨by first|rfl|(simp;done)|(simp [*];done),by repeat (first|exact Drawn0.refl _|apply Drawn0.step)⟩
    ·rw [if_neg c9] at H;have c9b0:decide (a1<a0)=false:=decide_eq_false c9;clear c9;obtain rfl:=Option.some.inj H;go_enter Try.func86,Try.ntmps86;go_wp2_with (first|((with_reducible refine gy 100 rfl ?_);refine gl Try.func100 #[.int .i64 a1] ?_;(with_reducible refine (cmp_isNaN_int.calls a1 false _ A4.out).mono ?_);rintro e w' ⟨rfl,⟨nd,rfl⟩⟩;refine ⟨_,rfl,?_⟩)|((with_reducible refine gy 100 rfl ?_);refine gl Try.func100 #[.int .i64 a0] ?_;(with_reducible refine (cmp_isNaN_int.calls a0 false _ A3.out).mono ?_);rintro e w' ⟨rfl,⟨nd,rfl⟩⟩;refine ⟨_,rfl,?_⟩));go_ret;exact ⟨by first|rfl|(simp;done)|(simp [*];done),by repeat (first|exact Drawn0.refl _|apply Drawn0.step)⟩

-- NOT PRINTED: function 122 (bytealg_abigen_runtime_cmpstring)

-- NOT PRINTED: function 101 (bytealg_CompareString)

/-! ### strings_Compare: function 87 -/
def strings_Compare.f (a0:ByteArray) (a1:ByteArray):Option (Int):=some (Lib.compareBytes a0.data.toList a1.data.toList)
set_option maxHeartbeats 4000000 in
set_option maxRecDepth 100000 in
theorem strings_Compare.inner (a b:ByteArray) (w:World):
    Calls Try.prog 101 #[.string a, .string b] w fun e w'=>e= .returned (.int .i64 (Lib.compareBytes a.data.toList b.data.toList))∧w'=w:=by
  go_enter Try.func101,Try.ntmps101
  go_wp2
  rw [run_callFunc_extern Try.func122 (by kernel_rfl) (by kernel_rfl) (by kernel_rfl) (e:=Extern.BytealgCompare.compare) (by kernel_rfl),Lib.run_compareString]
  simp only [Result.andThen]
  rw [Oper.upon_value]
  go_wp2
  go_ret
  exact ⟨rfl,rfl⟩
set_option maxHeartbeats 4000000 in
theorem strings_Compare.calls (a0:ByteArray) (a1:ByteArray) (r:Int) (w:World) (h:strings_Compare.f a0 a1=some r):
    Calls Try.prog 87 #[.string a0, .string a1] w fun e w'=>e= .returned (.int .i64 r)∧Drawn0 w w':=by
  obtain rfl:=Option.some.inj h
  go_enter Try.func87,Try.ntmps87
  go_wp2_with (go_at_call 101;refine (strings_Compare.inner _ _ _).mono ?_;rintro e w' ⟨rfl,rfl⟩)
  go_ret
  exact ⟨rfl,Drawn0.refl _⟩


/-! ### impl_stepOrder: function 61 -/
def impl_stepOrder.f (k:Nat) (a0_0:Int) (a0_1:ByteArray) (a0_2:Int) (a0_3:Int) (a1_0:Int) (a1_1:ByteArray) (a1_2:Int) (a1_3:Int):Option (Int):=(cmp_Compare_int.f a0_0 a1_0).bind fun t116=>((strings_Compare.f a0_1 a1_1).bind fun t117=>((cmp_Compare_int.f a0_2 a1_2).bind fun t118=>((cmp_Or_int.f k (([t116,t117,t118]:List Int))).bind fun t122=>(some t122))))
theorem impl_stepOrder.mono:∀a0 a1 a2 a3 a4 a5 a6 a7 k,LeO (impl_stepOrder.f k a0 a1 a2 a3 a4 a5 a6 a7) (impl_stepOrder.f (k+1) a0 a1 a2 a3 a4 a5 a6 a7):=by
 intro a0 a1 a2 a3 a4 a5 a6 a7 k;unfold impl_stepOrder.f;repeat' first
   |(with_reducible exact cmp_Or_int.mono _ _)
   |(with_reducible exact LeO.refl _)
   |(with_reducible exact LeO.none _)
   |(with_reducible refine LeO.ite ?_ ?_)
   |(with_reducible refine LeO.bind ?_ (fun _=> ?_))
def impl_stepOrder.T1:Bool×List (List Nat×List Nat):=(true,[([],[]),([0],[0]),([],[]),([2],[2]),([1,3],[1,3]),([],[]),([5],[5]),([],[]),([7],[7]),([6,8,4],[6,8]),([],[]),([10],[10]),([],[]),([12],[12]),([11,13,9],[11,13]),([4,9,14],[4,9,14]),([15,14],[15]),([16,16,0,1,2,3,4,5,6,7,8,9,10,11,12,13,14,15,16],[16])])
def impl_stepOrder.B1:List Nat:=[0,1,0,4,15,0,32,0,128,511,0,1024,0,4096,16383,32767,65535,131071]
theorem impl_stepOrder.tab1:rtab .any (opsOf Try.f61 1)=impl_stepOrder.T1:=by kernel_rfl
theorem impl_stepOrder.bits1:waitsOk impl_stepOrder.T1.2 impl_stepOrder.B1=true:=by kernel_rfl
set_option maxHeartbeats 8000000 in
set_option maxRecDepth 100000 in
theorem impl_stepOrder.calls (k:Nat) (a0_0:Int) (a0_1:ByteArray) (a0_2:Int) (a0_3:Int) (a1_0:Int) (a1_1:ByteArray) (a1_2:Int) (a1_3:Int) (r:Int) (w:World) (h:impl_stepOrder.f k a0_0 a0_1 a0_2 a0_3 a1_0 a1_1 a1_2 a1_3=some r):
  Calls Try.prog 61 #[.agg #[.int .i64 a0_0, .string a0_1, .int .i64 a0_2, .int .i64 a0_3], .agg #[.int .i64 a1_0, .string a1_1, .int .i64 a1_2, .int .i64 a1_3]] w fun e w'=>e= .returned (.int .i64 r)∧Below w.heap.size w w':=by
 have hu32:=Try.underlying32;have HB:=am (Below.refl w.heap.size w);have H:((cmp_Compare_int.f a0_0 a1_0).bind fun t116=>((strings_Compare.f a0_1 a1_1).bind fun t117=>((cmp_Compare_int.f a0_2 a1_2).bind fun t118=>((cmp_Or_int.f k (([t116,t117,t118]:List Int))).bind fun t122=>(some t122)))))=some r:=h;clear h;obtain ⟨t116,A3,H⟩:=bO H;(try dsimp only at H);obtain ⟨t117,A4,H⟩:=bO H;(try dsimp only at H);obtain ⟨t118,A5,H⟩:=bO H;(try dsimp only at H);obtain ⟨y119,hy119⟩:∃y_:List Int,y_=(([t116,t117,t118]:List Int)):=⟨_,rfl⟩
 replace H:((cmp_Or_int.f k y119).bind fun t122=>(some t122))=some r:=by first|(rw [hy119];with_reducible exact H)|(have H2_:=(Option.bind_some _ _).symm.trans H;rw [hy119];with_reducible exact H2_)|(have H2_:=(Option.bind_some _ _).symm.trans H;with_reducible exact H2_)|with_reducible exact H|(rw [hy119];exact H)|exact H
 have Ny119:=am hy119;clear hy119;obtain ⟨t122,A6,H⟩:=bO H;(try dsimp only at H);obtain rfl:=Option.some.inj H;go_enter Try.func61,Try.ntmps61;(try go_wp2_with (first|((with_reducible refine gx 2 rfl ?_);refine be (cs:= #[.int .i64 a0_0, .string a0_1, .int .i64 a0_2, .int .i64 a0_3]) (t:=32) ?_;intro gb114 hg w7 hbox hb;have BK114:=am (hbox);have GW114:=gs hg (bz HB.out);have GE114:=gs hg (bz HB.out);replace HB:=hs HB hb;clear hb hbox hg)|((with_reducible refine gx 3 rfl ?_);refine be (cs:= #[.int .i64 a1_0, .string a1_1, .int .i64 a1_2, .int .i64 a1_3]) (t:=32) ?_;intro gb115 hg w8 hbox hb;have BK115:=am (hbox);have GW115:=gs hg (bw HB.out);have GE115:=gs hg (bw HB.out);replace HB:=hs HB hb;have NB114_115:=nl hg (kz BK114.out);have NB115_114:=nr hg (kz BK114.out);replace BK114:=bk BK114 hb;clear hb hbox hg)));replace BK114:=am (blk_drew BK114.out);replace BK115:=am (blk_drew BK115.out);replace HB:=am (below_drew1 HB.out);refine start_ (n:=18) (S:=fun w'=>w'.cell? ⟨gb114,0,none⟩=some (.int .i64 a0_0)∧w'.cell? ⟨gb114,1,none⟩=some (.string a0_1)∧w'.cell? ⟨gb114,2,none⟩=some (.int .i64 a0_2)∧w'.cell? ⟨gb114,3,none⟩=some (.int .i64 a0_3)∧w'.cell? ⟨gb115,0,none⟩=some (.int .i64 a1_0)∧w'.cell? ⟨gb115,1,none⟩=some (.string a1_1)∧w'.cell? ⟨gb115,2,none⟩=some (.int .i64 a1_2)∧w'.cell? ⟨gb115,3,none⟩=some (.int .i64 a1_3)) (ds:=[]) (mkp 18 0) (by kernel_rfl) rfl rfl ⟨bl BK114.out 0,bl BK114.out 1,bl BK114.out 2,bl BK114.out 3,bl BK115.out 0,bl BK115.out 1,bl BK115.out 2,bl BK115.out 3⟩ (fun hHeld=> ?_);refine with_tabW impl_stepOrder.tab1 impl_stepOrder.bits1 (fun HT_ HW_=> ?_);generalize w8.drew=w9 at BK114 BK115 HB hHeld ⊢;refine qv HT_ ?_;refine pv 2 7 18 5 HT_ ?_;refine pv 5 10 18 37 HT_ ?_;refine pv 7 12 18 165 HT_ ?_;refine pv 10 15 18 1189 HT_ ?_;refine pv 12 17 18 5285 HT_ ?_;refine tkm 1 6 (mk 18 5287) HT_ HW_ hHeld ?_;refine tkm 3 8 (mk 18 5295) HT_ HW_ hHeld ?_;refine tkm 6 11 (mk 18 5359) HT_ HW_ hHeld ?_;refine tkm 8 13 (mk 18 5615) HT_ HW_ hHeld ?_;refine tkm 11 16 (mk 18 7663) HT_ HW_ hHeld ?_;refine tkm 13 18 (mk 18 15855) HT_ HW_ hHeld ?_;refine on 4 (mk 18 15871) HT_ (fun K hK=> ?_);refine gr Try.func86 #[.int .i64 a0_0, .int .i64 a1_0] ?_
 with_reducible refine (cmp_Compare_int.calls a0_0 a1_0 t116 _ A3.out).mono ?_
 rintro e w' ⟨rfl,⟨nd,rfl⟩⟩;refine ⟨_,rfl,?_⟩;refine hK.out _ _ ⟨bl BK114.out 0,bl BK114.out 1,bl BK114.out 2,bl BK114.out 3,bl BK115.out 0,bl BK115.out 1,bl BK115.out 2,bl BK115.out 3⟩ (fun hHeld=> ?_);clear hK K;refine norm_ (a':= ?_) ?_ ?_;rotate_left
 ·show Act.put _ (some 9) _=_;simp only [Act.put,List.setIfInBounds_toArray,List.set_cons_zero,List.set_cons_succ,i64_w,i32_w];rfl
 refine on 9 (mkp 18 14) HT_ (fun K hK=> ?_);refine gr Try.func87 #[.string a0_1, .string a1_1] ?_
 with_reducible refine (strings_Compare.calls a0_1 a1_1 t117 _ A4.out).mono ?_
 rintro e w' ⟨rfl,⟨nd,rfl⟩⟩;refine ⟨_,rfl,?_⟩;refine hK.out _ _ ⟨bl BK114.out 0,bl BK114.out 1,bl BK114.out 2,bl BK114.out 3,bl BK115.out 0,bl BK115.out 1,bl BK115.out 2,bl BK115.out 3⟩ (fun hHeld=> ?_);clear hK K;refine norm_ (a':= ?_) ?_ ?_;rotate_left
 ·show Act.put _ (some 14) _=_;simp only [Act.put,List.setIfInBounds_toArray,List.set_cons_zero,List.set_cons_succ,i64_w,i32_w];rfl
 refine on 14 (mkp 18 15) HT_ (fun K hK=> ?_);refine gr Try.func86 #[.int .i64 a0_2, .int .i64 a1_2] ?_
 with_reducible refine (cmp_Compare_int.calls a0_2 a1_2 t118 _ A5.out).mono ?_
 rintro e w' ⟨rfl,⟨nd,rfl⟩⟩;refine ⟨_,rfl,?_⟩;refine hK.out _ _ ⟨bl BK114.out 0,bl BK114.out 1,bl BK114.out 2,bl BK114.out 3,bl BK115.out 0,bl BK115.out 1,bl BK115.out 2,bl BK115.out 3⟩ (fun hHeld=> ?_);clear hK K;refine norm_ (a':= ?_) ?_ ?_;rotate_left
 ·show Act.put _ (some 19) _=_;simp only [Act.put,List.setIfInBounds_toArray,List.set_cons_zero,List.set_cons_succ,i64_w,i32_w];rfl
 refine on 15 (mkp 18 16) HT_ (fun K hK=> ?_);refine Kd.R_lit_step (Kd.int .i64) _ 3 ?hg (N:=20) ?hd (xs:=([t116,t117,t118]:List Int)) (inner:=[.int .i64 t116, .int .i64 t117, .int .i64 t118]) (ok:=fun _=>True) (okp:=fun _=>True) ?hr ?hp (fun _ hk=>hk) trivial (Below.refl _ _) (Nat.le_refl _) (by simp) ?_;(case hd=>rfl);(case hg=>rfl);(case hr=>first|(go_simp;done)|(go_simp;rfl));(case hp=>exact (Reps.one (show Kd.M (Kd.int .i64) _ _ _ t116 [.int .i64 t116] from rfl) (Reps.one (show Kd.M (Kd.int .i64) _ _ _ t117 [.int .i64 t117] from rfl) (Reps.one (show Kd.M (Kd.int .i64) _ _ _ t118 [.int .i64 t118] from rfl) (Reps.none _ _)))));intro v120 w10 ho11 hb hg_ hnew_;clear hg_ hnew_;(first|rw [←Ny119.out] at ho11|(simp only [Int.reduceToNat] at ho11;rw [←Ny119.out] at ho11));have HO121:=am (Kd.R_lower ho11 (below_size (bw HB.out)));replace BK114:=bk BK114 hb;replace BK115:=bk BK115 hb;replace HB:=hs HB hb;clear hb ho11;obtain ⟨Ao12,co12,eo12⟩:=Kd.R_slice HO121.out;(first|subst eo12|(injection eo12 with f1_ f2_ f3_;have f4_:=f1_.symm;have f5_:=f3_.symm;clear f1_ f2_ f3_;subst f4_;subst f5_));refine hK.out _ _ ⟨bl BK114.out 0,bl BK114.out 1,bl BK114.out 2,bl BK114.out 3,bl BK115.out 0,bl BK115.out 1,bl BK115.out 2,bl BK115.out 3⟩ (fun hHeld=> ?_);clear hK K;refine norm_ (a':= ?_) ?_ ?_;rotate_left
 ·show Act.put _ (some 20) _=_;simp only [Act.put,List.setIfInBounds_toArray,List.set_cons_zero,List.set_cons_succ,i64_w,i32_w];rfl
 refine on 16 (mkp 18 17) HT_ (fun K hK=> ?_);refine gr Try.func85 #[.slice Ao12 y119.length co12] ?_
 with_reducible refine (cmp_Or_int.calls k _ _ y119 t122 _ ?_ ?_ A6.out).mono ?_
 exact kC HO121;exact kL HO121;rintro e w' ⟨rfl,⟨nd,rfl⟩⟩;refine ⟨_,rfl,?_⟩;refine hK.out _ _ ⟨bl BK114.out 0,bl BK114.out 1,bl BK114.out 2,bl BK114.out 3,bl BK115.out 0,bl BK115.out 1,bl BK115.out 2,bl BK115.out 3⟩ (fun hHeld=> ?_);clear hK K;refine norm_ (a':= ?_) ?_ ?_;rotate_left
 ·show Act.put _ (some 21) _=_;simp only [Act.put,List.setIfInBounds_toArray,List.set_cons_zero,List.set_cons_succ,i64_w,i32_w];rfl
 refine qv HT_ ?_;refine done_ (done_of HT_.out (by kernel_rfl)) ?_;(try go_wp2);go_ret;exact ⟨by first|rfl|(simp [errW_none,errW_some]<;> rfl)|(simp [*,errW_none,errW_some]<;> rfl),by exact bw HB.out⟩

/-! ### impl_AutomatonValid: function 30 -/
mutual
def impl_AutomatonValid.j0:Nat→Bool→Int→List Int→List Int→List (S32)→Option (Bool)
 |0,_,_,_,_,_=>none
 |k+1,x34,x124000,x124001,x124002,x124003=>if x34=true then (some false) else (impl_AutomatonValid.l0 k x124003 (x124003.length:Int) 0 x124000 x124001 x124002 x124003)
def impl_AutomatonValid.l0:Nat→List (S32)→Int→Int→Int→List Int→List Int→List (S32)→Option (Bool)
 |0,_,_,_,_,_,_,_=>none
 |k+1,x36,x37,x38,x124000,x124001,x124002,x124003=>if x38<x37 then (if 0≤x38 then (if x38<(x36.length:Int) then (if ((rd_T32 x36 x38).f0)<0 then (some false) else (if ((rd_T32 x36 x38).f0)≥x124000 then (some false) else (if ((rd_T32 x36 x38).f2)<0 then (some false) else (if ((rd_T32 x36 x38).f2)≥x124000 then (some false) else (if ((rd_T32 x36 x38).f1).toList=([97]:List UInt8) then (if ((rd_T32 x36 x38).f3)<0 then (some false) else (if ((rd_T32 x36 x38).f3)>3 then (some false) else (if x38>0 then (if 0≤(wrap64 (x38 - 1)) then (if (wrap64 (x38 - 1))<(x124003.length:Int) then ((impl_stepOrder.f k ((rd_T32 x124003 (wrap64 (x38 - 1))).f0) ((rd_T32 x124003 (wrap64 (x38 - 1))).f1) ((rd_T32 x124003 (wrap64 (x38 - 1))).f2) ((rd_T32 x124003 (wrap64 (x38 - 1))).f3) ((rd_T32 x36 x38).f0) ((rd_T32 x36 x38).f1) ((rd_T32 x36 x38).f2) ((rd_T32 x36 x38).f3)).bind fun t129=>(if t129≥0 then (some false) else (impl_AutomatonValid.l0 k x36 x37 (wrap64 (x38+1)) x124000 x124001 x124002 x124003))) else (none)) else (none)) else (impl_AutomatonValid.l0 k x36 x37 (wrap64 (x38+1)) x124000 x124001 x124002 x124003)))) else (if ((rd_T32 x36 x38).f1).toList=([98]:List UInt8) then (if ((rd_T32 x36 x38).f3)<0 then (some false) else (if ((rd_T32 x36 x38).f3)>3 then (some false) else (if x38>0 then (if 0≤(wrap64 (x38 - 1)) then (if (wrap64 (x38 - 1))<(x124003.length:Int) then ((impl_stepOrder.f k ((rd_T32 x124003 (wrap64 (x38 - 1))).f0) ((rd_T32 x124003 (wrap64 (x38 - 1))).f1) ((rd_T32 x124003 (wrap64 (x38 - 1))).f2) ((rd_T32 x124003 (wrap64 (x38 - 1))).f3) ((rd_T32 x36 x38).f0) ((rd_T32 x36 x38).f1) ((rd_T32 x36 x38).f2) ((rd_T32 x36 x38).f3)).bind fun t131=>(if t131≥0 then (some false) else (impl_AutomatonValid.l0 k x36 x37 (wrap64 (x38+1)) x124000 x124001 x124002 x124003))) else (none)) else (none)) else (impl_AutomatonValid.l0 k x36 x37 (wrap64 (x38+1)) x124000 x124001 x124002 x124003)))) else (some false))))))) else (none)) else (none)) else (some true)
end
def impl_AutomatonValid.f (k:Nat) (a0_0:Int) (l0_1:List Int) (l0_2:List Int) (l0_3:List (S32)):Option (Bool):=if a0_0<1 then (impl_AutomatonValid.j0 k true a0_0 l0_1 l0_2 l0_3) else (if a0_0>4 then (impl_AutomatonValid.j0 k true a0_0 l0_1 l0_2 l0_3) else (if (l0_3.length:Int)>24 then (impl_AutomatonValid.j0 k true a0_0 l0_1 l0_2 l0_3) else ((impl_statesOk.f k l0_1 a0_0).bind fun t124=>(if t124=true then ((impl_statesOk.f k l0_2 a0_0).bind fun t125=>(impl_AutomatonValid.j0 k (!t125) a0_0 l0_1 l0_2 l0_3)) else (impl_AutomatonValid.j0 k true a0_0 l0_1 l0_2 l0_3)))))
theorem impl_AutomatonValid.mono_l:∀k,(∀y0 y1 y2 y3 y4,LeO (impl_AutomatonValid.j0 k y0 y1 y2 y3 y4) (impl_AutomatonValid.j0 (k+1) y0 y1 y2 y3 y4))∧(∀y0 y1 y2 y3 y4 y5 y6,LeO (impl_AutomatonValid.l0 k y0 y1 y2 y3 y4 y5 y6) (impl_AutomatonValid.l0 (k+1) y0 y1 y2 y3 y4 y5 y6))
 |0=>⟨fun _ _ _ _ _ r h=>by simp [impl_AutomatonValid.j0] at h,fun _ _ _ _ _ _ _ r h=>by simp [impl_AutomatonValid.l0] at h⟩
 |k+1=>by
  obtain ⟨ih0,ih1⟩:=impl_AutomatonValid.mono_l k;refine ⟨?_,?_⟩
  ·intro y0 y1 y2 y3 y4;unfold impl_AutomatonValid.j0;repeat' first
   |(with_reducible exact ih0 _ _ _ _ _)
   |(with_reducible exact ih1 _ _ _ _ _ _ _)
   |(with_reducible exact impl_statesOk.mono _ _ _)
   |(with_reducible exact impl_stepOrder.mono _ _ _ _ _ _ _ _ _)
   |(with_reducible exact LeO.refl _)
   |(with_reducible exact LeO.none _)
   |(with_reducible refine LeO.ite ?_ ?_)
   |(with_reducible refine LeO.bind ?_ (fun _=> ?_))
  ·intro y0 y1 y2 y3 y4 y5 y6;unfold impl_AutomatonValid.l0;repeat' first
   |(with_reducible exact ih0 _ _ _ _ _)
   |(with_reducible exact ih1 _ _ _ _ _ _ _)
   |(with_reducible exact impl_statesOk.mono _ _ _)
   |(with_reducible exact impl_stepOrder.mono _ _ _ _ _ _ _ _ _)
   |(with_reducible exact LeO.refl _)
   |(with_reducible exact LeO.none _)
   |(with_reducible refine LeO.ite ?_ ?_)
   |(with_reducible refine LeO.bind ?_ (fun _=> ?_))
theorem impl_AutomatonValid.mono:∀a0 a1 a2 a3 k,LeO (impl_AutomatonValid.f k a0 a1 a2 a3) (impl_AutomatonValid.f (k+1) a0 a1 a2 a3):=by
 intro a0 a1 a2 a3 k;obtain ⟨ih0,ih1⟩:=impl_AutomatonValid.mono_l k;unfold impl_AutomatonValid.f;repeat' first
   |(with_reducible exact ih0 _ _ _ _ _)
   |(with_reducible exact ih1 _ _ _ _ _ _ _)
   |(with_reducible exact impl_statesOk.mono _ _ _)
   |(with_reducible exact impl_stepOrder.mono _ _ _ _ _ _ _ _ _)
   |(with_reducible exact LeO.refl _)
   |(with_reducible exact LeO.none _)
   |(with_reducible refine LeO.ite ?_ ?_)
   |(with_reducible refine LeO.bind ?_ (fun _=> ?_))
def impl_AutomatonValid.T6:Bool×List (List Nat×List Nat):=(true,[([],[]),([0],[0]),([1],[1]),([2],[2]),([3],[3]),([4,3],[3,4]),([3],[3]),([6,3],[3,6]),([5,7,3],[3,5,7]),([3,8],[3,8]),([9,3],[9]),([10],[10]),([11,10],[10,11]),([12,10],[10,12]),([10,13],[10,13]),([14,10],[14]),([15],[15]),([16,15],[15,16]),([15],[15]),([18,15],[15,18]),([17,19,15],[15,17,19]),([15,20],[15,20]),([21,15],[21]),([22],[22]),([23,22],[22,23]),([24,22],[22,24]),([25,22,22],[22,25]),([26],[26]),([27,26],[26,27]),([28,26],[26,28]),([26,29,22],[22,26,29]),([22,30],[22,30]),([31,26],[31]),([32],[32]),([33,32],[32,33]),([34,32],[32,34]),([32,35],[32,35]),([36,32],[36]),([37],[37]),([38,37],[37,38]),([39,37],[37,39]),([37,40],[37,40]),([41,37],[41]),([42],[42]),([43,42],[42,43]),([44,42,42],[42,44]),([45],[45]),([46,45],[45,46]),([45],[45]),([48,45],[45,48]),([47,49,45],[45,47,49]),([50,45],[45,50]),([45],[45]),([51,52,45,45],[45,51,52]),([53,45],[45,53]),([45,54,42],[42,45,54]),([42,55],[42,55])])
def impl_AutomatonValid.B6:List Nat:=[0,1,3,7,15,31,15,79,255,511,1023,2047,4095,8191,16383,32767,65535,131071,65535,327679,1048575,2097151,4194303,8388607,16777215,33554431,67108863,134217727,268435455,536870911,1073741823,2147483647,4294967295,8589934591,17179869183,34359738367,68719476735,137438953471,274877906943,549755813887,1099511627775,2199023255551,4398046511103,8796093022207,17592186044415,35184372088831,70368744177663,140737488355327,70368744177663,351843720888319,1125899906842623,2251799813685247,70368744177663,9007199254740991,18014398509481983,36028797018963967,72057594037927935]
theorem impl_AutomatonValid.tab6:rtab .any (opsOf Try.f30 6)=impl_AutomatonValid.T6:=by kernel_rfl
theorem impl_AutomatonValid.bits6:waitsOk impl_AutomatonValid.T6.2 impl_AutomatonValid.B6=true:=by kernel_rfl
set_option maxHeartbeats 8000000 in
set_option maxRecDepth 100000 in
theorem impl_AutomatonValid.calls (k:Nat) (a0_0:Int) (A0_1:Option Addr) (c0_1:Nat) (l0_1:List Int) (A0_2:Option Addr) (c0_2:Nat) (l0_2:List Int) (A0_3:Option Addr) (c0_3:Nat) (l0_3:List (S32)) (r:Bool) (w:World) (hr0_1:Kd.C (Kd.int .i64) w A0_1 l0_1.length l0_1) (hc0_1:l0_1.length≤c0_1) (hr0_2:Kd.C (Kd.int .i64) w A0_2 l0_2.length l0_2) (hc0_2:l0_2.length≤c0_2) (hr0_3:Kd.C k32 w A0_3 l0_3.length l0_3) (hc0_3:l0_3.length≤c0_3) (h:impl_AutomatonValid.f k a0_0 l0_1 l0_2 l0_3=some r):
  Calls Try.prog 30 #[.agg #[.int .i64 a0_0, .slice A0_1 l0_1.length c0_1, .slice A0_2 l0_2.length c0_2, .slice A0_3 l0_3.length c0_3]] w fun e w'=>e= .returned (.bool r)∧Below w.heap.size w w':=by
 have hu26:=Try.underlying26;have hu32:=Try.underlying32;have HR0_1:=am hr0_1;have HC0_1:=am hc0_1;clear hr0_1 hc0_1;have HR0_2:=am hr0_2;have HC0_2:=am hc0_2;clear hr0_2 hc0_2;have HR0_3:=am hr0_3;have HC0_3:=am hc0_3;clear hr0_3 hc0_3;have HB:=am (Below.refl w.heap.size w);have H:(if a0_0<1 then (impl_AutomatonValid.j0 k true a0_0 l0_1 l0_2 l0_3) else (if a0_0>4 then (impl_AutomatonValid.j0 k true a0_0 l0_1 l0_2 l0_3) else (if (l0_3.length:Int)>24 then (impl_AutomatonValid.j0 k true a0_0 l0_1 l0_2 l0_3) else ((impl_statesOk.f k l0_1 a0_0).bind fun t124=>(if t124=true then ((impl_statesOk.f k l0_2 a0_0).bind fun t125=>(impl_AutomatonValid.j0 k (!t125) a0_0 l0_1 l0_2 l0_3)) else (impl_AutomatonValid.j0 k true a0_0 l0_1 l0_2 l0_3))))))=some r:=h;clear h;have HC2:=am H;clear H;go_enter Try.func30,Try.ntmps30;go_upto_region 1 with (first|((with_reducible refine gx 1 rfl ?_);(try (refine gate_guard (by rfl) ?_;dsimp only));refine be (cs:= #[.int .i64 a0_0, .slice A0_1 l0_1.length c0_1, .slice A0_2 l0_2.length c0_2, .slice A0_3 l0_3.length c0_3]) (t:=26) ?_;intro gb123 hg w3 hbox hb;have BK123:=am (hbox);have GW123:=gs hg (bz HB.out);have GE123:=gs hg (bz HB.out);replace HB:=hs HB hb;clear hb hbox hg));(try simp only [Act.put,List.setIfInBounds_toArray,List.set_cons_zero,List.set_cons_succ]);go_cut [34] (fun v34 wc=>∃(kq:Nat) (x34_1:Bool),v34= .bool x34_1∧Aside0 (impl_AutomatonValid.j0 kq x34_1 a0_0 l0_1 l0_2 l0_3=some r)∧Aside0 (kq≤k)∧Aside0 (wc.heap[gb123]? =some (.cells #[.int .i64 a0_0,(.slice A0_1 l0_1.length c0_1),(.slice A0_2 l0_2.length c0_2),(.slice A0_3 l0_3.length c0_3)] 26 (0,0)))∧Aside0 (Below w.heap.size w wc))
 case first=>
  have H:=HC2.out;clear HC2;by_cases c4:a0_0<1
  ·rw [if_pos c4] at H;have c4b0:=decide_eq_true c4;clear c4;(first|rw [c4b0]|(simp only [i64_w,i32_w];rw [c4b0])|skip);have H':=am H;clear H;have hz5:=zf4 BK123.out;go_wp2;go_meet
   case rel=>exact ⟨_,(true),(by first|rfl|(simp;done)|(simp [*];done)),H',⟨by first|omega|exact Nat.le_refl _⟩,⟨kz BK123.out⟩,⟨by exact bw HB.out⟩⟩
  ·rw [if_neg c4] at H;have c4b0:=decide_eq_false c4;clear c4;(first|rw [c4b0]|(simp only [i64_w,i32_w];rw [c4b0])|skip);by_cases c6:a0_0>4
   ·rw [if_pos c6] at H;have c6b0:decide (4<a0_0)=true:=decide_eq_true c6;clear c6;have H':=am H;clear H;have hz7:=zf4 BK123.out;go_wp2;go_meet
    case rel=>exact ⟨_,(true),(by first|rfl|(simp;done)|(simp [*];done)),H',⟨by first|omega|exact Nat.le_refl _⟩,⟨kz BK123.out⟩,⟨by exact bw HB.out⟩⟩
   ·rw [if_neg c6] at H;have c6b0:decide (4<a0_0)=false:=decide_eq_false c6;clear c6;by_cases c8:(l0_3.length:Int)>24
    ·rw [if_pos c8] at H;have c8b0:decide (24<(l0_3.length:Int))=true:=decide_eq_true c8;have c8b1:decide (24<l0_3.length)=true:=decide_eq_true (by omega);clear c8;have H':=am H;clear H;have hz9:=zf4 BK123.out;go_wp2;go_meet
     case rel=>exact ⟨_,(true),(by first|rfl|(simp;done)|(simp [*];done)),H',⟨by first|omega|exact Nat.le_refl _⟩,⟨kz BK123.out⟩,⟨by exact bw HB.out⟩⟩
    ·rw [if_neg c8] at H;have c8b0:decide (24<(l0_3.length:Int))=false:=decide_eq_false c8;have c8b1:decide (24<l0_3.length)=false:=decide_eq_false (by omega);clear c8;obtain ⟨t124,A10,H⟩:=bO H;(try dsimp only at H);by_cases c11:t124=true
     ·subst c11
      have H1:((impl_statesOk.f k l0_2 a0_0).bind fun t125=>(impl_AutomatonValid.j0 k (!t125) a0_0 l0_1 l0_2 l0_3))=some r:=by rw [if_pos rfl] at H;exact H
      clear H;have H:=H1;clear H1;obtain ⟨t125,A12,H⟩:=bO H;(try dsimp only at H);have H':=am H;clear H;have hz13:=zf4 BK123.out;go_wp2_with (first|(go_at_call 60;(with_reducible refine (impl_statesOk.calls k _ _ l0_1 a0_0 true _ ?_ ?_ A10.out).mono ?_);exact cc (Kd.C_below HR0_1.out HB.out);exact HC0_1.out;rintro e w' ⟨rfl,⟨nd,rfl⟩⟩)|(go_at_call 60;(with_reducible refine (impl_statesOk.calls k _ _ l0_2 a0_0 t125 _ ?_ ?_ A12.out).mono ?_);exact cc (Kd.C_below HR0_2.out (bw HB.out));exact HC0_2.out;rintro e w' ⟨rfl,⟨nd,rfl⟩⟩));go_meet
      case rel=>exact ⟨_,(!t125),(by first|rfl|(simp;done)|(simp [*];done)),H',⟨by first|omega|exact Nat.le_refl _⟩,⟨kz BK123.out⟩,⟨by exact bw HB.out⟩⟩
     ·replace c11:=Bool.eq_false_iff.mpr c11;subst c11
      have H1:(impl_AutomatonValid.j0 k true a0_0 l0_1 l0_2 l0_3)=some r:=by rw [if_neg (show ¬(false=true) by decide)] at H;exact H
      clear H;have H:=H1;clear H1;have H':=am H;clear H;have hz14:=zf4 BK123.out;go_wp2_with (first|(go_at_call 60;(with_reducible refine (impl_statesOk.calls k _ _ l0_1 a0_0 false _ ?_ ?_ A10.out).mono ?_);exact cc (Kd.C_below HR0_1.out HB.out);exact HC0_1.out;rintro e w' ⟨rfl,⟨nd,rfl⟩⟩));go_meet
      case rel=>exact ⟨_,(true),(by first|rfl|(simp;done)|(simp [*];done)),H',⟨by first|omega|exact Nat.le_refl _⟩,⟨kz BK123.out⟩,⟨by exact bw HB.out⟩⟩
 case rest=>
  clear HC2;(try clear c1);(try clear p2);(try clear c3);(try clear c4);(try clear c4b0);(try clear c6);(try clear c6b0);(try clear c8);(try clear c8b0);(try clear c8b1);(try clear c11);obtain ⟨kq,x34_1,rfl,HA,HJ1,BK123,HB⟩:=hcut
  cases kq with
  |zero=>exact absurd HA.out (by simp [impl_AutomatonValid.j0])
  |succ kj1=>
   have H:=HA.out;clear HA;simp only [impl_AutomatonValid.j0] at H;by_cases c15:x34_1=true
   ·subst c15
    have H1:(some false)=some r:=by rw [if_pos rfl] at H;exact H
    clear H;have H:=H1;clear H1;obtain rfl:=Option.some.inj H;go_wp2;go_ret;exact ⟨by first|rfl|(simp [errW_none,errW_some]<;> rfl)|(simp [*,errW_none,errW_some]<;> rfl),by exact bw HB.out⟩
   ·replace c15:=Bool.eq_false_iff.mpr c15;subst c15
    have H1:(impl_AutomatonValid.l0 kj1 l0_3 (l0_3.length:Int) 0 a0_0 l0_1 l0_2 l0_3)=some r:=by rw [if_neg (show ¬(false=true) by decide)] at H;exact H
    clear H;have H:=H1;clear H1;have H':=am H;clear H;have hz16:=zf4 BK123.out;go_wp2;go_loopg [38] kj1 (fun kq v38 w'=>∃(x38_2:Int),v38= .int .i64 x38_2∧Aside0 (impl_AutomatonValid.l0 kq l0_3 (l0_3.length:Int) x38_2 a0_0 l0_1 l0_2 l0_3=some r)∧Aside0 (kq≤kj1)∧Aside0 (w'.heap[gb123]? =some (.cells #[.int .i64 a0_0,(.slice A0_1 l0_1.length c0_1),(.slice A0_2 l0_2.length c0_2),(.slice A0_3 l0_3.length c0_3)] 26 (0,0)))∧Aside0 (Below w.heap.size w w'))
    case atStart=>exact ⟨(0),(by first|rfl|(simp;done)|(simp [*];done)),H',⟨Nat.le_refl _⟩,⟨kz BK123.out⟩,⟨by exact bw HB.out⟩⟩
    case round=>
     clear H';(try clear c1);(try clear p2);(try clear c3);(try clear c4);(try clear c4b0);(try clear c6);(try clear c6b0);(try clear c8);(try clear c8b0);(try clear c8b1);(try clear c11);(try clear c15);(try clear p2);obtain ⟨x38_2,rfl,HA,HK2,BK123,HB⟩:=hrel
     cases gk with
     |zero=>exact absurd HA.out (by simp [impl_AutomatonValid.l0])
     |succ k2=>
      have H:=HA.out;clear HA;simp only [impl_AutomatonValid.l0] at H;by_cases c17:x38_2<(l0_3.length:Int)
      ·rw [if_pos c17] at H;have c17b0:=decide_eq_true c17;clear c17;by_cases c18:0≤x38_2
       ·rw [if_pos c18] at H;have c18b0:=decide_eq_true c18;clear c18;by_cases c19:x38_2<(l0_3.length:Int)
        ·rw [if_pos c19] at H;have c19b0:=decide_eq_true c19;clear c19;by_cases c20:((rd_T32 l0_3 x38_2).f0)<0
         ·rw [if_pos c20] at H;have c20b0:=decide_eq_true c20;clear c20;obtain rfl:=Option.some.inj H;have p126:0≤(x38_2:Int):=da;have q126:x38_2<(l0_3.length:Int):=da;obtain ⟨ad126,e126,hx126_0,hx126_1,hx126_2,hx126_3⟩:=at_T32 HR0_3.out x38_2 p126 q126;cases e126;replace hx126_0:=lx (bw HB.out) hx126_0;replace hx126_1:=lx (bw HB.out) hx126_1;replace hx126_2:=lx (bw HB.out) hx126_2;replace hx126_3:=lx (bw HB.out) hx126_3;replace p126:=eq_true p126;replace q126:=eq_true q126;(try go_wp2_with (first|((with_reducible refine gx 4 rfl ?_);(try (refine gate_guard (by rfl) ?_;dsimp only));refine be (cs:= #[.int .i64 0, .string (⟨#[]⟩:ByteArray), .int .i64 0, .int .i64 0]) (t:=32) ?_;intro gb127 hg w21 hbox hb;have BK127:=am (hbox);have GW127:=gs hg (bw HB.out);have GE127:=gs hg (bw HB.out);replace HB:=hs HB hb;have NB123_127:=nl hg (kz BK123.out);have NB127_123:=nr hg (kz BK123.out);replace BK123:=bk BK123 hb;clear hb hbox hg;have hnb22:=NB127_123.out;have hnc22:=NB123_127.out;have hz23:=zf4 BK127.out)));generalize hW_:((((w21.setCell ⟨gb127,0,none⟩ (.int .i64 ((rd_T32 l0_3 x38_2).f0))).setCell ⟨gb127,1,none⟩ (.string ((rd_T32 l0_3 x38_2).f1))).setCell ⟨gb127,2,none⟩ (.int .i64 ((rd_T32 l0_3 x38_2).f2))).setCell ⟨gb127,3,none⟩ (.int .i64 ((rd_T32 l0_3 x38_2).f3)))=w24;have n0_:Aside0 (w24.heap[gb123]? =some (.cells #[.int .i64 a0_0, .slice A0_1 l0_1.length c0_1, .slice A0_2 l0_2.length c0_2, .slice (some ad126) l0_3.length c0_3] 26 (0,0))):=⟨by rw [←hW_];exact kp BK123.out⟩;have n1_:Aside0 (w24.heap[gb127]? =some (.cells #[.int .i64 ((rd_T32 l0_3 x38_2).f0), .string ((rd_T32 l0_3 x38_2).f1), .int .i64 ((rd_T32 l0_3 x38_2).f2), .int .i64 ((rd_T32 l0_3 x38_2).f3)] 32 (0,0))):=⟨by rw [←hW_];exact kp BK127.out⟩;have n2_:Aside0 (Below w.heap.size w w24):=⟨by rw [←hW_];exact bw HB.out⟩;(try clear BK123);(try clear BK127);(try clear HB);clear hW_;revert n0_ n1_ n2_;intro BK123 BK127 HB;replace BK123:=am (blk_drew BK123.out);replace BK127:=am (blk_drew BK127.out);replace HB:=am (below_drew1 HB.out);refine start_ (n:=57) (S:=fun w'=>w'.cell? ⟨gb127,0,none⟩=some (.int .i64 ((rd_T32 l0_3 x38_2).f0))∧w'.cell? ⟨gb127,1,none⟩=some (.string ((rd_T32 l0_3 x38_2).f1))∧w'.cell? ⟨gb127,2,none⟩=some (.int .i64 ((rd_T32 l0_3 x38_2).f2))∧w'.cell? ⟨gb127,3,none⟩=some (.int .i64 ((rd_T32 l0_3 x38_2).f3))) (ds:=[]) (mkp 57 0) (by kernel_rfl) rfl rfl ⟨bl BK127.out 0,bl BK127.out 1,bl BK127.out 2,bl BK127.out 3⟩ (fun hHeld=> ?_);refine with_tabW impl_AutomatonValid.tab6 impl_AutomatonValid.bits6 (fun HT_ HW_=> ?_);generalize w24.drew=w25 at BK123 BK127 HB hHeld ⊢;(iterate 57 (first|refine qu HT_ ?_|refine qv HT_ ?_|refine tk HT_ HW_ hHeld ?_));refine done_ (done_of HT_.out (by kernel_rfl)) ?_;(try go_wp2);go_ret;exact ⟨by first|rfl|(simp [errW_none,errW_some]<;> rfl)|(simp [*,errW_none,errW_some]<;> rfl),by exact bw HB.out⟩
         ·rw [if_neg c20] at H;have c20b0:=decide_eq_false c20;clear c20;by_cases c26:((rd_T32 l0_3 x38_2).f0)≥a0_0
          ·rw [if_pos c26] at H;have c26b0:decide (a0_0≤((rd_T32 l0_3 x38_2).f0))=true:=decide_eq_true c26;clear c26;obtain rfl:=Option.some.inj H;have p126:0≤(x38_2:Int):=da;have q126:x38_2<(l0_3.length:Int):=da;obtain ⟨ad126,e126,hx126_0,hx126_1,hx126_2,hx126_3⟩:=at_T32 HR0_3.out x38_2 p126 q126;cases e126;replace hx126_0:=lx (bw HB.out) hx126_0;replace hx126_1:=lx (bw HB.out) hx126_1;replace hx126_2:=lx (bw HB.out) hx126_2;replace hx126_3:=lx (bw HB.out) hx126_3;replace p126:=eq_true p126;replace q126:=eq_true q126;(try go_wp2_with (first|((with_reducible refine gx 4 rfl ?_);(try (refine gate_guard (by rfl) ?_;dsimp only));refine be (cs:= #[.int .i64 0, .string (⟨#[]⟩:ByteArray), .int .i64 0, .int .i64 0]) (t:=32) ?_;intro gb127 hg w27 hbox hb;have BK127:=am (hbox);have GW127:=gs hg (bw HB.out);have GE127:=gs hg (bw HB.out);replace HB:=hs HB hb;have NB123_127:=nl hg (kz BK123.out);have NB127_123:=nr hg (kz BK123.out);replace BK123:=bk BK123 hb;clear hb hbox hg;have hnb28:=NB127_123.out;have hnc28:=NB123_127.out;have hz29:=zf4 BK127.out)));generalize hW_:((((w27.setCell ⟨gb127,0,none⟩ (.int .i64 ((rd_T32 l0_3 x38_2).f0))).setCell ⟨gb127,1,none⟩ (.string ((rd_T32 l0_3 x38_2).f1))).setCell ⟨gb127,2,none⟩ (.int .i64 ((rd_T32 l0_3 x38_2).f2))).setCell ⟨gb127,3,none⟩ (.int .i64 ((rd_T32 l0_3 x38_2).f3)))=w30;have n0_:Aside0 (w30.heap[gb123]? =some (.cells #[.int .i64 a0_0, .slice A0_1 l0_1.length c0_1, .slice A0_2 l0_2.length c0_2, .slice (some ad126) l0_3.length c0_3] 26 (0,0))):=⟨by rw [←hW_];exact kp BK123.out⟩;have n1_:Aside0 (w30.heap[gb127]? =some (.cells #[.int .i64 ((rd_T32 l0_3 x38_2).f0), .string ((rd_T32 l0_3 x38_2).f1), .int .i64 ((rd_T32 l0_3 x38_2).f2), .int .i64 ((rd_T32 l0_3 x38_2).f3)] 32 (0,0))):=⟨by rw [←hW_];exact kp BK127.out⟩;have n2_:Aside0 (Below w.heap.size w w30):=⟨by rw [←hW_];exact bw HB.out⟩;(try clear BK123);(try clear BK127);(try clear HB);clear hW_;revert n0_ n1_ n2_;intro BK123 BK127 HB;replace BK123:=am (blk_drew BK123.out);replace BK127:=am (blk_drew BK127.out);replace HB:=am (below_drew1 HB.out);refine start_ (n:=57) (S:=fun w'=>w'.cell? ⟨gb127,0,none⟩=some (.int .i64 ((rd_T32 l0_3 x38_2).f0))∧w'.cell? ⟨gb127,1,none⟩=some (.string ((rd_T32 l0_3 x38_2).f1))∧w'.cell? ⟨gb127,2,none⟩=some (.int .i64 ((rd_T32 l0_3 x38_2).f2))∧w'.cell? ⟨gb127,3,none⟩=some (.int .i64 ((rd_T32 l0_3 x38_2).f3))∧w'.cell? ⟨gb123,0,none⟩=some (.int .i64 a0_0)∧w'.cell? ⟨gb123,1,none⟩=some (.slice A0_1 l0_1.length c0_1)∧w'.cell? ⟨gb123,2,none⟩=some (.slice A0_2 l0_2.length c0_2)∧w'.cell? ⟨gb123,3,none⟩=some (.slice (some ad126) l0_3.length c0_3)) (ds:=[]) (mkp 57 0) (by kernel_rfl) rfl rfl ⟨bl BK127.out 0,bl BK127.out 1,bl BK127.out 2,bl BK127.out 3,bl BK123.out 0,bl BK123.out 1,bl BK123.out 2,bl BK123.out 3⟩ (fun hHeld=> ?_);refine with_tabW impl_AutomatonValid.tab6 impl_AutomatonValid.bits6 (fun HT_ HW_=> ?_);generalize w30.drew=w31 at BK123 BK127 HB hHeld ⊢;(iterate 5 (first|refine qv HT_ ?_|refine tk HT_ HW_ hHeld ?_));refine pv 6 49 57 95 HT_ ?_;refine tkm 5 48 (mkp 57 7) HT_ HW_ hHeld ?_;(iterate 50 (first|refine qu HT_ ?_|refine qv HT_ ?_|refine tk HT_ HW_ hHeld ?_));refine done_ (done_of HT_.out (by kernel_rfl)) ?_;(try go_wp2);go_ret;exact ⟨by first|rfl|(simp [errW_none,errW_some]<;> rfl)|(simp [*,errW_none,errW_some]<;> rfl),by exact bw HB.out⟩
          ·rw [if_neg c26] at H;have c26b0:decide (a0_0≤((rd_T32 l0_3 x38_2).f0))=false:=decide_eq_false c26;clear c26;by_cases c32:((rd_T32 l0_3 x38_2).f2)<0
           ·rw [if_pos c32] at H;have c32b0:=decide_eq_true c32;clear c32;obtain rfl:=Option.some.inj H;have p126:0≤(x38_2:Int):=da;have q126:x38_2<(l0_3.length:Int):=da;obtain ⟨ad126,e126,hx126_0,hx126_1,hx126_2,hx126_3⟩:=at_T32 HR0_3.out x38_2 p126 q126;cases e126;replace hx126_0:=lx (bw HB.out) hx126_0;replace hx126_1:=lx (bw HB.out) hx126_1;replace hx126_2:=lx (bw HB.out) hx126_2;replace hx126_3:=lx (bw HB.out) hx126_3;replace p126:=eq_true p126;replace q126:=eq_true q126;(try go_wp2_with (first|((with_reducible refine gx 4 rfl ?_);(try (refine gate_guard (by rfl) ?_;dsimp only));refine be (cs:= #[.int .i64 0, .string (⟨#[]⟩:ByteArray), .int .i64 0, .int .i64 0]) (t:=32) ?_;intro gb127 hg w33 hbox hb;have BK127:=am (hbox);have GW127:=gs hg (bw HB.out);have GE127:=gs hg (bw HB.out);replace HB:=hs HB hb;have NB123_127:=nl hg (kz BK123.out);have NB127_123:=nr hg (kz BK123.out);replace BK123:=bk BK123 hb;clear hb hbox hg;have hnb34:=NB127_123.out;have hnc34:=NB123_127.out;have hz35:=zf4 BK127.out)));generalize hW_:((((w33.setCell ⟨gb127,0,none⟩ (.int .i64 ((rd_T32 l0_3 x38_2).f0))).setCell ⟨gb127,1,none⟩ (.string ((rd_T32 l0_3 x38_2).f1))).setCell ⟨gb127,2,none⟩ (.int .i64 ((rd_T32 l0_3 x38_2).f2))).setCell ⟨gb127,3,none⟩ (.int .i64 ((rd_T32 l0_3 x38_2).f3)))=w36;have n0_:Aside0 (w36.heap[gb123]? =some (.cells #[.int .i64 a0_0, .slice A0_1 l0_1.length c0_1, .slice A0_2 l0_2.length c0_2, .slice (some ad126) l0_3.length c0_3] 26 (0,0))):=⟨by rw [←hW_];exact kp BK123.out⟩;have n1_:Aside0 (w36.heap[gb127]? =some (.cells #[.int .i64 ((rd_T32 l0_3 x38_2).f0), .string ((rd_T32 l0_3 x38_2).f1), .int .i64 ((rd_T32 l0_3 x38_2).f2), .int .i64 ((rd_T32 l0_3 x38_2).f3)] 32 (0,0))):=⟨by rw [←hW_];exact kp BK127.out⟩;have n2_:Aside0 (Below w.heap.size w w36):=⟨by rw [←hW_];exact bw HB.out⟩;(try clear BK123);(try clear BK127);(try clear HB);clear hW_;revert n0_ n1_ n2_;intro BK123 BK127 HB;replace BK123:=am (blk_drew BK123.out);replace BK127:=am (blk_drew BK127.out);replace HB:=am (below_drew1 HB.out);refine start_ (n:=57) (S:=fun w'=>w'.cell? ⟨gb127,0,none⟩=some (.int .i64 ((rd_T32 l0_3 x38_2).f0))∧w'.cell? ⟨gb127,1,none⟩=some (.string ((rd_T32 l0_3 x38_2).f1))∧w'.cell? ⟨gb127,2,none⟩=some (.int .i64 ((rd_T32 l0_3 x38_2).f2))∧w'.cell? ⟨gb127,3,none⟩=some (.int .i64 ((rd_T32 l0_3 x38_2).f3))∧w'.cell? ⟨gb123,0,none⟩=some (.int .i64 a0_0)∧w'.cell? ⟨gb123,1,none⟩=some (.slice A0_1 l0_1.length c0_1)∧w'.cell? ⟨gb123,2,none⟩=some (.slice A0_2 l0_2.length c0_2)∧w'.cell? ⟨gb123,3,none⟩=some (.slice (some ad126) l0_3.length c0_3)) (ds:=[]) (mkp 57 0) (by kernel_rfl) rfl rfl ⟨bl BK127.out 0,bl BK127.out 1,bl BK127.out 2,bl BK127.out 3,bl BK123.out 0,bl BK123.out 1,bl BK123.out 2,bl BK123.out 3⟩ (fun hHeld=> ?_);refine with_tabW impl_AutomatonValid.tab6 impl_AutomatonValid.bits6 (fun HT_ HW_=> ?_);generalize w36.drew=w37 at BK123 BK127 HB hHeld ⊢;(iterate 5 (first|refine qv HT_ ?_|refine tk HT_ HW_ hHeld ?_));refine pv 6 49 57 95 HT_ ?_;refine tkm 5 48 (mkp 57 7) HT_ HW_ hHeld ?_;(iterate 50 (first|refine qu HT_ ?_|refine qv HT_ ?_|refine tk HT_ HW_ hHeld ?_));refine done_ (done_of HT_.out (by kernel_rfl)) ?_;(try go_wp2);go_ret;exact ⟨by first|rfl|(simp [errW_none,errW_some]<;> rfl)|(simp [*,errW_none,errW_some]<;> rfl),by exact bw HB.out⟩
           ·rw [if_neg c32] at H;have c32b0:=decide_eq_false c32;clear c32;by_cases c38:((rd_T32 l0_3 x38_2).f2)≥a0_0
            ·rw [if_pos c38] at H;have c38b0:decide (a0_0≤((rd_T32 l0_3 x38_2).f2))=true:=decide_eq_true c38;clear c38;obtain rfl:=Option.some.inj H;have p126:0≤(x38_2:Int):=da;have q126:x38_2<(l0_3.length:Int):=da;obtain ⟨ad126,e126,hx126_0,hx126_1,hx126_2,hx126_3⟩:=at_T32 HR0_3.out x38_2 p126 q126;cases e126;replace hx126_0:=lx (bw HB.out) hx126_0;replace hx126_1:=lx (bw HB.out) hx126_1;replace hx126_2:=lx (bw HB.out) hx126_2;replace hx126_3:=lx (bw HB.out) hx126_3;replace p126:=eq_true p126;replace q126:=eq_true q126;(try go_wp2_with (first|((with_reducible refine gx 4 rfl ?_);(try (refine gate_guard (by rfl) ?_;dsimp only));refine be (cs:= #[.int .i64 0, .string (⟨#[]⟩:ByteArray), .int .i64 0, .int .i64 0]) (t:=32) ?_;intro gb127 hg w39 hbox hb;have BK127:=am (hbox);have GW127:=gs hg (bw HB.out);have GE127:=gs hg (bw HB.out);replace HB:=hs HB hb;have NB123_127:=nl hg (kz BK123.out);have NB127_123:=nr hg (kz BK123.out);replace BK123:=bk BK123 hb;clear hb hbox hg;have hnb40:=NB127_123.out;have hnc40:=NB123_127.out;have hz41:=zf4 BK127.out)));generalize hW_:((((w39.setCell ⟨gb127,0,none⟩ (.int .i64 ((rd_T32 l0_3 x38_2).f0))).setCell ⟨gb127,1,none⟩ (.string ((rd_T32 l0_3 x38_2).f1))).setCell ⟨gb127,2,none⟩ (.int .i64 ((rd_T32 l0_3 x38_2).f2))).setCell ⟨gb127,3,none⟩ (.int .i64 ((rd_T32 l0_3 x38_2).f3)))=w42;have n0_:Aside0 (w42.heap[gb123]? =some (.cells #[.int .i64 a0_0, .slice A0_1 l0_1.length c0_1, .slice A0_2 l0_2.length c0_2, .slice (some ad126) l0_3.length c0_3] 26 (0,0))):=⟨by rw [←hW_];exact kp BK123.out⟩;have n1_:Aside0 (w42.heap[gb127]? =some (.cells #[.int .i64 ((rd_T32 l0_3 x38_2).f0), .string ((rd_T32 l0_3 x38_2).f1), .int .i64 ((rd_T32 l0_3 x38_2).f2), .int .i64 ((rd_T32 l0_3 x38_2).f3)] 32 (0,0))):=⟨by rw [←hW_];exact kp BK127.out⟩;have n2_:Aside0 (Below w.heap.size w w42):=⟨by rw [←hW_];exact bw HB.out⟩;(try clear BK123);(try clear BK127);(try clear HB);clear hW_;revert n0_ n1_ n2_;intro BK123 BK127 HB;replace BK123:=am (blk_drew BK123.out);replace BK127:=am (blk_drew BK127.out);replace HB:=am (below_drew1 HB.out);refine start_ (n:=57) (S:=fun w'=>w'.cell? ⟨gb127,0,none⟩=some (.int .i64 ((rd_T32 l0_3 x38_2).f0))∧w'.cell? ⟨gb127,1,none⟩=some (.string ((rd_T32 l0_3 x38_2).f1))∧w'.cell? ⟨gb127,2,none⟩=some (.int .i64 ((rd_T32 l0_3 x38_2).f2))∧w'.cell? ⟨gb127,3,none⟩=some (.int .i64 ((rd_T32 l0_3 x38_2).f3))∧w'.cell? ⟨gb123,0,none⟩=some (.int .i64 a0_0)∧w'.cell? ⟨gb123,1,none⟩=some (.slice A0_1 l0_1.length c0_1)∧w'.cell? ⟨gb123,2,none⟩=some (.slice A0_2 l0_2.length c0_2)∧w'.cell? ⟨gb123,3,none⟩=some (.slice (some ad126) l0_3.length c0_3)) (ds:=[]) (mkp 57 0) (by kernel_rfl) rfl rfl ⟨bl BK127.out 0,bl BK127.out 1,bl BK127.out 2,bl BK127.out 3,bl BK123.out 0,bl BK123.out 1,bl BK123.out 2,bl BK123.out 3⟩ (fun hHeld=> ?_);refine with_tabW impl_AutomatonValid.tab6 impl_AutomatonValid.bits6 (fun HT_ HW_=> ?_);generalize w42.drew=w43 at BK123 BK127 HB hHeld ⊢;(iterate 5 (first|refine qv HT_ ?_|refine tk HT_ HW_ hHeld ?_));refine pv 6 49 57 95 HT_ ?_;refine tkm 5 48 (mkp 57 7) HT_ HW_ hHeld ?_;(iterate 10 (first|refine qv HT_ ?_|refine tk HT_ HW_ hHeld ?_));refine pv 18 61 57 393215 HT_ ?_;refine tkm 17 60 (mkp 57 19) HT_ HW_ hHeld ?_;(iterate 38 (first|refine qu HT_ ?_|refine qv HT_ ?_|refine tk HT_ HW_ hHeld ?_));refine done_ (done_of HT_.out (by kernel_rfl)) ?_;(try go_wp2);go_ret;exact ⟨by first|rfl|(simp [errW_none,errW_some]<;> rfl)|(simp [*,errW_none,errW_some]<;> rfl),by exact bw HB.out⟩
            ·rw [if_neg c38] at H;have c38b0:decide (a0_0≤((rd_T32 l0_3 x38_2).f2))=false:=decide_eq_false c38;clear c38;by_cases c44:((rd_T32 l0_3 x38_2).f1).toList=([97]:List UInt8)
             ·rw [if_pos c44] at H;have c44b0:(((rd_T32 l0_3 x38_2).f1).toList==([97]:List UInt8))=true:=beq_iff_eq.mpr c44;have c44b1:(((rd_T32 l0_3 x38_2).f1).toList != ([97]:List UInt8))=false:=bne_eq_false_iff_eq.mpr c44;clear c44;by_cases c45:((rd_T32 l0_3 x38_2).f3)<0
              ·rw [if_pos c45] at H;have c45b0:=decide_eq_true c45;clear c45;obtain rfl:=Option.some.inj H;have p126:0≤(x38_2:Int):=da;have q126:x38_2<(l0_3.length:Int):=da;obtain ⟨ad126,e126,hx126_0,hx126_1,hx126_2,hx126_3⟩:=at_T32 HR0_3.out x38_2 p126 q126;cases e126;replace hx126_0:=lx (bw HB.out) hx126_0;replace hx126_1:=lx (bw HB.out) hx126_1;replace hx126_2:=lx (bw HB.out) hx126_2;replace hx126_3:=lx (bw HB.out) hx126_3;replace p126:=eq_true p126;replace q126:=eq_true q126;(try go_wp2_with (first|((with_reducible refine gx 4 rfl ?_);(try (refine gate_guard (by rfl) ?_;dsimp only));refine be (cs:= #[.int .i64 0, .string (⟨#[]⟩:ByteArray), .int .i64 0, .int .i64 0]) (t:=32) ?_;intro gb127 hg w46 hbox hb;have BK127:=am (hbox);have GW127:=gs hg (bw HB.out);have GE127:=gs hg (bw HB.out);replace HB:=hs HB hb;have NB123_127:=nl hg (kz BK123.out);have NB127_123:=nr hg (kz BK123.out);replace BK123:=bk BK123 hb;clear hb hbox hg;have hnb47:=NB127_123.out;have hnc47:=NB123_127.out;have hz48:=zf4 BK127.out)));generalize hW_:((((w46.setCell ⟨gb127,0,none⟩ (.int .i64 ((rd_T32 l0_3 x38_2).f0))).setCell ⟨gb127,1,none⟩ (.string ((rd_T32 l0_3 x38_2).f1))).setCell ⟨gb127,2,none⟩ (.int .i64 ((rd_T32 l0_3 x38_2).f2))).setCell ⟨gb127,3,none⟩ (.int .i64 ((rd_T32 l0_3 x38_2).f3)))=w49;have n0_:Aside0 (w49.heap[gb123]? =some (.cells #[.int .i64 a0_0, .slice A0_1 l0_1.length c0_1, .slice A0_2 l0_2.length c0_2, .slice (some ad126) l0_3.length c0_3] 26 (0,0))):=⟨by rw [←hW_];exact kp BK123.out⟩;have n1_:Aside0 (w49.heap[gb127]? =some (.cells #[.int .i64 ((rd_T32 l0_3 x38_2).f0), .string ((rd_T32 l0_3 x38_2).f1), .int .i64 ((rd_T32 l0_3 x38_2).f2), .int .i64 ((rd_T32 l0_3 x38_2).f3)] 32 (0,0))):=⟨by rw [←hW_];exact kp BK127.out⟩;have n2_:Aside0 (Below w.heap.size w w49):=⟨by rw [←hW_];exact bw HB.out⟩;(try clear BK123);(try clear BK127);(try clear HB);clear hW_;revert n0_ n1_ n2_;intro BK123 BK127 HB;replace BK123:=am (blk_drew BK123.out);replace BK127:=am (blk_drew BK127.out);replace HB:=am (below_drew1 HB.out);refine start_ (n:=57) (S:=fun w'=>w'.cell? ⟨gb127,0,none⟩=some (.int .i64 ((rd_T32 l0_3 x38_2).f0))∧w'.cell? ⟨gb127,1,none⟩=some (.string ((rd_T32 l0_3 x38_2).f1))∧w'.cell? ⟨gb127,2,none⟩=some (.int .i64 ((rd_T32 l0_3 x38_2).f2))∧w'.cell? ⟨gb127,3,none⟩=some (.int .i64 ((rd_T32 l0_3 x38_2).f3))∧w'.cell? ⟨gb123,0,none⟩=some (.int .i64 a0_0)∧w'.cell? ⟨gb123,1,none⟩=some (.slice A0_1 l0_1.length c0_1)∧w'.cell? ⟨gb123,2,none⟩=some (.slice A0_2 l0_2.length c0_2)∧w'.cell? ⟨gb123,3,none⟩=some (.slice (some ad126) l0_3.length c0_3)) (ds:=[]) (mkp 57 0) (by kernel_rfl) rfl rfl ⟨bl BK127.out 0,bl BK127.out 1,bl BK127.out 2,bl BK127.out 3,bl BK123.out 0,bl BK123.out 1,bl BK123.out 2,bl BK123.out 3⟩ (fun hHeld=> ?_);refine with_tabW impl_AutomatonValid.tab6 impl_AutomatonValid.bits6 (fun HT_ HW_=> ?_);generalize w49.drew=w50 at BK123 BK127 HB hHeld ⊢;(iterate 5 (first|refine qv HT_ ?_|refine tk HT_ HW_ hHeld ?_));refine pv 6 49 57 95 HT_ ?_;refine tkm 5 48 (mkp 57 7) HT_ HW_ hHeld ?_;(iterate 10 (first|refine qv HT_ ?_|refine tk HT_ HW_ hHeld ?_));refine pv 18 61 57 393215 HT_ ?_;refine tkm 17 60 (mkp 57 19) HT_ HW_ hHeld ?_;(iterate 38 (first|refine qu HT_ ?_|refine qv HT_ ?_|refine tk HT_ HW_ hHeld ?_));refine done_ (done_of HT_.out (by kernel_rfl)) ?_;(try go_wp2);go_ret;exact ⟨by first|rfl|(simp [errW_none,errW_some]<;> rfl)|(simp [*,errW_none,errW_some]<;> rfl),by exact bw HB.out⟩
              ·rw [if_neg c45] at H;have c45b0:=decide_eq_false c45;clear c45;by_cases c51:((rd_T32 l0_3 x38_2).f3)>3
               ·rw [if_pos c51] at H;have c51b0:decide (3<((rd_T32 l0_3 x38_2).f3))=true:=decide_eq_true c51;clear c51;obtain rfl:=Option.some.inj H;have p126:0≤(x38_2:Int):=da;have q126:x38_2<(l0_3.length:Int):=da;obtain ⟨ad126,e126,hx126_0,hx126_1,hx126_2,hx126_3⟩:=at_T32 HR0_3.out x38_2 p126 q126;cases e126;replace hx126_0:=lx (bw HB.out) hx126_0;replace hx126_1:=lx (bw HB.out) hx126_1;replace hx126_2:=lx (bw HB.out) hx126_2;replace hx126_3:=lx (bw HB.out) hx126_3;replace p126:=eq_true p126;replace q126:=eq_true q126;(try go_wp2_with (first|((with_reducible refine gx 4 rfl ?_);(try (refine gate_guard (by rfl) ?_;dsimp only));refine be (cs:= #[.int .i64 0, .string (⟨#[]⟩:ByteArray), .int .i64 0, .int .i64 0]) (t:=32) ?_;intro gb127 hg w52 hbox hb;have BK127:=am (hbox);have GW127:=gs hg (bw HB.out);have GE127:=gs hg (bw HB.out);replace HB:=hs HB hb;have NB123_127:=nl hg (kz BK123.out);have NB127_123:=nr hg (kz BK123.out);replace BK123:=bk BK123 hb;clear hb hbox hg;have hnb53:=NB127_123.out;have hnc53:=NB123_127.out;have hz54:=zf4 BK127.out)));generalize hW_:((((w52.setCell ⟨gb127,0,none⟩ (.int .i64 ((rd_T32 l0_3 x38_2).f0))).setCell ⟨gb127,1,none⟩ (.string ((rd_T32 l0_3 x38_2).f1))).setCell ⟨gb127,2,none⟩ (.int .i64 ((rd_T32 l0_3 x38_2).f2))).setCell ⟨gb127,3,none⟩ (.int .i64 ((rd_T32 l0_3 x38_2).f3)))=w55;have n0_:Aside0 (w55.heap[gb123]? =some (.cells #[.int .i64 a0_0, .slice A0_1 l0_1.length c0_1, .slice A0_2 l0_2.length c0_2, .slice (some ad126) l0_3.length c0_3] 26 (0,0))):=⟨by rw [←hW_];exact kp BK123.out⟩;have n1_:Aside0 (w55.heap[gb127]? =some (.cells #[.int .i64 ((rd_T32 l0_3 x38_2).f0), .string ((rd_T32 l0_3 x38_2).f1), .int .i64 ((rd_T32 l0_3 x38_2).f2), .int .i64 ((rd_T32 l0_3 x38_2).f3)] 32 (0,0))):=⟨by rw [←hW_];exact kp BK127.out⟩;have n2_:Aside0 (Below w.heap.size w w55):=⟨by rw [←hW_];exact bw HB.out⟩;(try clear BK123);(try clear BK127);(try clear HB);clear hW_;revert n0_ n1_ n2_;intro BK123 BK127 HB;replace BK123:=am (blk_drew BK123.out);replace BK127:=am (blk_drew BK127.out);replace HB:=am (below_drew1 HB.out);refine start_ (n:=57) (S:=fun w'=>w'.cell? ⟨gb127,0,none⟩=some (.int .i64 ((rd_T32 l0_3 x38_2).f0))∧w'.cell? ⟨gb127,1,none⟩=some (.string ((rd_T32 l0_3 x38_2).f1))∧w'.cell? ⟨gb127,2,none⟩=some (.int .i64 ((rd_T32 l0_3 x38_2).f2))∧w'.cell? ⟨gb127,3,none⟩=some (.int .i64 ((rd_T32 l0_3 x38_2).f3))∧w'.cell? ⟨gb123,0,none⟩=some (.int .i64 a0_0)∧w'.cell? ⟨gb123,1,none⟩=some (.slice A0_1 l0_1.length c0_1)∧w'.cell? ⟨gb123,2,none⟩=some (.slice A0_2 l0_2.length c0_2)∧w'.cell? ⟨gb123,3,none⟩=some (.slice (some ad126) l0_3.length c0_3)) (ds:=[]) (mkp 57 0) (by kernel_rfl) rfl rfl ⟨bl BK127.out 0,bl BK127.out 1,bl BK127.out 2,bl BK127.out 3,bl BK123.out 0,bl BK123.out 1,bl BK123.out 2,bl BK123.out 3⟩ (fun hHeld=> ?_);refine with_tabW impl_AutomatonValid.tab6 impl_AutomatonValid.bits6 (fun HT_ HW_=> ?_);generalize w55.drew=w56 at BK123 BK127 HB hHeld ⊢;(iterate 5 (first|refine qv HT_ ?_|refine tk HT_ HW_ hHeld ?_));refine pv 6 49 57 95 HT_ ?_;refine tkm 5 48 (mkp 57 7) HT_ HW_ hHeld ?_;(iterate 10 (first|refine qv HT_ ?_|refine tk HT_ HW_ hHeld ?_));refine pv 18 61 57 393215 HT_ ?_;refine tkm 17 60 (mkp 57 19) HT_ HW_ hHeld ?_;(iterate 38 (first|refine qu HT_ ?_|refine qv HT_ ?_|refine tk HT_ HW_ hHeld ?_));refine done_ (done_of HT_.out (by kernel_rfl)) ?_;(try go_wp2);go_ret;exact ⟨by first|rfl|(simp [errW_none,errW_some]<;> rfl)|(simp [*,errW_none,errW_some]<;> rfl),by exact bw HB.out⟩
               ·rw [if_neg c51] at H;have c51b0:decide (3<((rd_T32 l0_3 x38_2).f3))=false:=decide_eq_false c51;clear c51;by_cases c57:x38_2>0
                ·rw [if_pos c57] at H;have c57b0:decide (0<x38_2)=true:=decide_eq_true c57;clear c57;obtain ⟨ji58,hji58⟩:∃j_:Int,(wrap64 (x38_2 - 1))=j_:=⟨_,rfl⟩
                 replace H:(if 0≤(ji58) then (if (ji58)<(l0_3.length:Int) then ((impl_stepOrder.f k2 ((rd_T32 l0_3 (ji58)).f0) ((rd_T32 l0_3 (ji58)).f1) ((rd_T32 l0_3 (ji58)).f2) ((rd_T32 l0_3 (ji58)).f3) ((rd_T32 l0_3 x38_2).f0) ((rd_T32 l0_3 x38_2).f1) ((rd_T32 l0_3 x38_2).f2) ((rd_T32 l0_3 x38_2).f3)).bind fun t129=>(if t129≥0 then (some false) else (impl_AutomatonValid.l0 k2 l0_3 (l0_3.length:Int) (wrap64 (x38_2+1)) a0_0 l0_1 l0_2 l0_3))) else (none)) else (none))=some r:=by first|(rw [hji58] at H;exact H)|(simp only [hji58] at H ⊢;exact H)
                 have hji58w:(IntKind.i64.wrap (x38_2 - 1))=ji58:=(i64_w _).trans hji58;by_cases c59:0≤(ji58)
                 ·rw [if_pos c59] at H;have c59b0:=decide_eq_true c59;clear c59;by_cases c60:(ji58)<(l0_3.length:Int)
                  ·rw [if_pos c60] at H;have c60b0:=decide_eq_true c60;clear c60;obtain ⟨t129,A61,H⟩:=bO H;(try dsimp only at H);by_cases c62:t129≥0
                   ·rw [if_pos c62] at H;have c62b0:decide (0≤t129)=true:=decide_eq_true c62;clear c62;obtain rfl:=Option.some.inj H;have p126:0≤(x38_2:Int):=da;have q126:x38_2<(l0_3.length:Int):=da;obtain ⟨ad126,e126,hx126_0,hx126_1,hx126_2,hx126_3⟩:=at_T32 HR0_3.out x38_2 p126 q126;cases e126;replace hx126_0:=lx (bw HB.out) hx126_0;replace hx126_1:=lx (bw HB.out) hx126_1;replace hx126_2:=lx (bw HB.out) hx126_2;replace hx126_3:=lx (bw HB.out) hx126_3;replace p126:=eq_true p126;replace q126:=eq_true q126;(try go_wp2_with (first|((with_reducible refine gx 4 rfl ?_);(try (refine gate_guard (by rfl) ?_;dsimp only));refine be (cs:= #[.int .i64 0, .string (⟨#[]⟩:ByteArray), .int .i64 0, .int .i64 0]) (t:=32) ?_;intro gb127 hg w63 hbox hb;have BK127:=am (hbox);have GW127:=gs hg (bw HB.out);have GE127:=gs hg (bw HB.out);replace HB:=hs HB hb;have NB123_127:=nl hg (kz BK123.out);have NB127_123:=nr hg (kz BK123.out);replace BK123:=bk BK123 hb;clear hb hbox hg;have hnb64:=NB127_123.out;have hnc64:=NB123_127.out;have hz65:=zf4 BK127.out)));generalize hW_:((((w63.setCell ⟨gb127,0,none⟩ (.int .i64 ((rd_T32 l0_3 x38_2).f0))).setCell ⟨gb127,1,none⟩ (.string ((rd_T32 l0_3 x38_2).f1))).setCell ⟨gb127,2,none⟩ (.int .i64 ((rd_T32 l0_3 x38_2).f2))).setCell ⟨gb127,3,none⟩ (.int .i64 ((rd_T32 l0_3 x38_2).f3)))=w66;have n0_:Aside0 (w66.heap[gb123]? =some (.cells #[.int .i64 a0_0, .slice A0_1 l0_1.length c0_1, .slice A0_2 l0_2.length c0_2, .slice (some ad126) l0_3.length c0_3] 26 (0,0))):=⟨by rw [←hW_];exact kp BK123.out⟩;have n1_:Aside0 (w66.heap[gb127]? =some (.cells #[.int .i64 ((rd_T32 l0_3 x38_2).f0), .string ((rd_T32 l0_3 x38_2).f1), .int .i64 ((rd_T32 l0_3 x38_2).f2), .int .i64 ((rd_T32 l0_3 x38_2).f3)] 32 (0,0))):=⟨by rw [←hW_];exact kp BK127.out⟩;have n2_:Aside0 (Below w.heap.size w w66):=⟨by rw [←hW_];exact bw HB.out⟩;(try clear BK123);(try clear BK127);(try clear HB);clear hW_;revert n0_ n1_ n2_;intro BK123 BK127 HB;replace BK123:=am (blk_drew BK123.out);replace BK127:=am (blk_drew BK127.out);replace HB:=am (below_drew1 HB.out);have p128:0≤((ji58):Int):=da;have q128:(ji58)<(l0_3.length:Int):=da;obtain ⟨ad128,e128,hx128_0,hx128_1,hx128_2,hx128_3⟩:=at_T32 HR0_3.out (ji58) p128 q128;have hw128_3:=hx128_3;have hw128_2:=hx128_2;have hw128_1:=hx128_1;have hw128_0:=hx128_0;obtain rfl:ad126=ad128:=(by injection e128);replace hx128_0:=lx (bw HB.out) hx128_0;replace hx128_1:=lx (bw HB.out) hx128_1;replace hx128_2:=lx (bw HB.out) hx128_2;replace hx128_3:=lx (bw HB.out) hx128_3;replace p128:=eq_true p128;replace q128:=eq_true q128;refine start_ (n:=57) (S:=fun w'=>w'.cell? ⟨gb127,0,none⟩=some (.int .i64 ((rd_T32 l0_3 x38_2).f0))∧w'.cell? ⟨gb127,1,none⟩=some (.string ((rd_T32 l0_3 x38_2).f1))∧w'.cell? ⟨gb127,2,none⟩=some (.int .i64 ((rd_T32 l0_3 x38_2).f2))∧w'.cell? ⟨gb127,3,none⟩=some (.int .i64 ((rd_T32 l0_3 x38_2).f3))∧w'.cell? ⟨gb123,0,none⟩=some (.int .i64 a0_0)∧w'.cell? ⟨gb123,1,none⟩=some (.slice A0_1 l0_1.length c0_1)∧w'.cell? ⟨gb123,2,none⟩=some (.slice A0_2 l0_2.length c0_2)∧w'.cell? ⟨gb123,3,none⟩=some (.slice (some ad126) l0_3.length c0_3)∧w'.cell? (ad126.add (((ji58)).toNat*4))=some (.int .i64 ((rd_T32 l0_3 (ji58)).f0))∧w'.cell? ⟨(ad126.add (((ji58)).toNat*4)).block,(ad126.add (((ji58)).toNat*4)).off+1,none⟩=some (.string ((rd_T32 l0_3 (ji58)).f1))∧w'.cell? ⟨(ad126.add (((ji58)).toNat*4)).block,(ad126.add (((ji58)).toNat*4)).off+2,none⟩=some (.int .i64 ((rd_T32 l0_3 (ji58)).f2))∧w'.cell? ⟨(ad126.add (((ji58)).toNat*4)).block,(ad126.add (((ji58)).toNat*4)).off+3,none⟩=some (.int .i64 ((rd_T32 l0_3 (ji58)).f3))) (ds:=[]) (mkp 57 0) (by kernel_rfl) rfl rfl ⟨bl BK127.out 0,bl BK127.out 1,bl BK127.out 2,bl BK127.out 3,bl BK123.out 0,bl BK123.out 1,bl BK123.out 2,bl BK123.out 3,(lx (bw HB.out) hw128_0),(lx (bw HB.out) hw128_1),(lx (bw HB.out) hw128_2),(lx (bw HB.out) hw128_3)⟩ (fun hHeld=> ?_);refine with_tabW impl_AutomatonValid.tab6 impl_AutomatonValid.bits6 (fun HT_ HW_=> ?_);generalize w66.drew=w67 at BK123 BK127 HB hx128_0 hx128_1 hx128_2 hx128_3 hHeld ⊢;(iterate 5 (first|refine qv HT_ ?_|refine tk HT_ HW_ hHeld ?_));refine pv 6 49 57 95 HT_ ?_;refine tkm 5 48 (mkp 57 7) HT_ HW_ hHeld ?_;(iterate 10 (first|refine qv HT_ ?_|refine tk HT_ HW_ hHeld ?_));refine pv 18 61 57 393215 HT_ ?_;refine tkm 17 60 (mkp 57 19) HT_ HW_ hHeld ?_;(iterate 28 (first|refine qu HT_ ?_|refine qv HT_ ?_|refine tk HT_ HW_ hHeld ?_));refine pv 48 91 57 422212465065983 HT_ ?_;refine pv 49 92 57 985162418487295 HT_ ?_;refine tkm 47 90 (mkp 57 50) HT_ HW_ hHeld ?_;(iterate 3 (first|refine qv HT_ ?_|refine tk HT_ HW_ hHeld ?_));refine on 53 (mkp 57 54) HT_ (fun K hK=> ?_);refine goes_ Try.func61 (by kernel_rfl) rfl #[.agg #[.int .i64 ((rd_T32 l0_3 (ji58)).f0), .string ((rd_T32 l0_3 (ji58)).f1), .int .i64 ((rd_T32 l0_3 (ji58)).f2), .int .i64 ((rd_T32 l0_3 (ji58)).f3)], .agg #[.int .i64 ((rd_T32 l0_3 x38_2).f0), .string ((rd_T32 l0_3 x38_2).f1), .int .i64 ((rd_T32 l0_3 x38_2).f2), .int .i64 ((rd_T32 l0_3 x38_2).f3)]] (by rfl) rfl rfl (by (try simp only [List.map_toArray,List.map_cons,List.map_nil]);first|done|(simp only [hji58];rfl)|rfl|(simp only [List.length_drop,List.length_take];rfl)) ?_
                    with_reducible refine (impl_stepOrder.calls k2 ((rd_T32 l0_3 (ji58)).f0) ((rd_T32 l0_3 (ji58)).f1) ((rd_T32 l0_3 (ji58)).f2) ((rd_T32 l0_3 (ji58)).f3) ((rd_T32 l0_3 x38_2).f0) ((rd_T32 l0_3 x38_2).f1) ((rd_T32 l0_3 x38_2).f2) ((rd_T32 l0_3 x38_2).f3) t129 _ A61.out).mono ?_
                    rintro e w68 ⟨rfl,hb⟩;refine ⟨_,rfl,?_⟩;replace BK123:=bk BK123 hb;replace BK127:=bk BK127 hb;replace HB:=hs HB hb;(try clear hb);refine hK.out _ _ ⟨bl BK127.out 0,bl BK127.out 1,bl BK127.out 2,bl BK127.out 3,bl BK123.out 0,bl BK123.out 1,bl BK123.out 2,bl BK123.out 3,(lx (bw HB.out) hw128_0),(lx (bw HB.out) hw128_1),(lx (bw HB.out) hw128_2),(lx (bw HB.out) hw128_3)⟩ (fun hHeld=> ?_);clear hK K;refine norm_ (a':= ?_) ?_ ?_;rotate_left
                    ·show Act.put _ (some 96) _=_;simp only [Act.put,List.setIfInBounds_toArray,List.set_cons_zero,List.set_cons_succ,i64_w,i32_w];rfl
                    (iterate 3 refine qv HT_ ?_);refine done_ (done_of HT_.out (by kernel_rfl)) ?_;(try go_wp2);go_ret;exact ⟨by first|rfl|(simp [errW_none,errW_some]<;> rfl)|(simp only [←hji58];first|rfl|(simp [errW_none,errW_some]<;> rfl))|(simp [*,errW_none,errW_some]<;> rfl),by exact bw HB.out⟩
                   ·rw [if_neg c62] at H;have c62b0:decide (0≤t129)=false:=decide_eq_false c62;clear c62;have H':=am H;clear H;have p126:0≤(x38_2:Int):=da;have q126:x38_2<(l0_3.length:Int):=da;obtain ⟨ad126,e126,hx126_0,hx126_1,hx126_2,hx126_3⟩:=at_T32 HR0_3.out x38_2 p126 q126;cases e126;replace hx126_0:=lx (bw HB.out) hx126_0;replace hx126_1:=lx (bw HB.out) hx126_1;replace hx126_2:=lx (bw HB.out) hx126_2;replace hx126_3:=lx (bw HB.out) hx126_3;replace p126:=eq_true p126;replace q126:=eq_true q126;(try go_wp2_with (first|((with_reducible refine gx 4 rfl ?_);(try (refine gate_guard (by rfl) ?_;dsimp only));refine be (cs:= #[.int .i64 0, .string (⟨#[]⟩:ByteArray), .int .i64 0, .int .i64 0]) (t:=32) ?_;intro gb127 hg w69 hbox hb;have BK127:=am (hbox);have GW127:=gs hg (bw HB.out);have GE127:=gs hg (bw HB.out);replace HB:=hs HB hb;have NB123_127:=nl hg (kz BK123.out);have NB127_123:=nr hg (kz BK123.out);replace BK123:=bk BK123 hb;clear hb hbox hg;have hnb70:=NB127_123.out;have hnc70:=NB123_127.out;have hz71:=zf4 BK127.out)));generalize hW_:((((w69.setCell ⟨gb127,0,none⟩ (.int .i64 ((rd_T32 l0_3 x38_2).f0))).setCell ⟨gb127,1,none⟩ (.string ((rd_T32 l0_3 x38_2).f1))).setCell ⟨gb127,2,none⟩ (.int .i64 ((rd_T32 l0_3 x38_2).f2))).setCell ⟨gb127,3,none⟩ (.int .i64 ((rd_T32 l0_3 x38_2).f3)))=w72;have n0_:Aside0 (w72.heap[gb123]? =some (.cells #[.int .i64 a0_0, .slice A0_1 l0_1.length c0_1, .slice A0_2 l0_2.length c0_2, .slice (some ad126) l0_3.length c0_3] 26 (0,0))):=⟨by rw [←hW_];exact kp BK123.out⟩;have n1_:Aside0 (w72.heap[gb127]? =some (.cells #[.int .i64 ((rd_T32 l0_3 x38_2).f0), .string ((rd_T32 l0_3 x38_2).f1), .int .i64 ((rd_T32 l0_3 x38_2).f2), .int .i64 ((rd_T32 l0_3 x38_2).f3)] 32 (0,0))):=⟨by rw [←hW_];exact kp BK127.out⟩;have n2_:Aside0 (Below w.heap.size w w72):=⟨by rw [←hW_];exact bw HB.out⟩;(try clear BK123);(try clear BK127);(try clear HB);clear hW_;revert n0_ n1_ n2_;intro BK123 BK127 HB;replace BK123:=am (blk_drew BK123.out);replace BK127:=am (blk_drew BK127.out);replace HB:=am (below_drew1 HB.out);have p128:0≤((ji58):Int):=da;have q128:(ji58)<(l0_3.length:Int):=da;obtain ⟨ad128,e128,hx128_0,hx128_1,hx128_2,hx128_3⟩:=at_T32 HR0_3.out (ji58) p128 q128;have hw128_3:=hx128_3;have hw128_2:=hx128_2;have hw128_1:=hx128_1;have hw128_0:=hx128_0;obtain rfl:ad126=ad128:=(by injection e128);replace hx128_0:=lx (bw HB.out) hx128_0;replace hx128_1:=lx (bw HB.out) hx128_1;replace hx128_2:=lx (bw HB.out) hx128_2;replace hx128_3:=lx (bw HB.out) hx128_3;replace p128:=eq_true p128;replace q128:=eq_true q128;refine start_ (n:=57) (S:=fun w'=>w'.cell? ⟨gb127,0,none⟩=some (.int .i64 ((rd_T32 l0_3 x38_2).f0))∧w'.cell? ⟨gb127,1,none⟩=some (.string ((rd_T32 l0_3 x38_2).f1))∧w'.cell? ⟨gb127,2,none⟩=some (.int .i64 ((rd_T32 l0_3 x38_2).f2))∧w'.cell? ⟨gb127,3,none⟩=some (.int .i64 ((rd_T32 l0_3 x38_2).f3))∧w'.cell? ⟨gb123,0,none⟩=some (.int .i64 a0_0)∧w'.cell? ⟨gb123,1,none⟩=some (.slice A0_1 l0_1.length c0_1)∧w'.cell? ⟨gb123,2,none⟩=some (.slice A0_2 l0_2.length c0_2)∧w'.cell? ⟨gb123,3,none⟩=some (.slice (some ad126) l0_3.length c0_3)∧w'.cell? (ad126.add (((ji58)).toNat*4))=some (.int .i64 ((rd_T32 l0_3 (ji58)).f0))∧w'.cell? ⟨(ad126.add (((ji58)).toNat*4)).block,(ad126.add (((ji58)).toNat*4)).off+1,none⟩=some (.string ((rd_T32 l0_3 (ji58)).f1))∧w'.cell? ⟨(ad126.add (((ji58)).toNat*4)).block,(ad126.add (((ji58)).toNat*4)).off+2,none⟩=some (.int .i64 ((rd_T32 l0_3 (ji58)).f2))∧w'.cell? ⟨(ad126.add (((ji58)).toNat*4)).block,(ad126.add (((ji58)).toNat*4)).off+3,none⟩=some (.int .i64 ((rd_T32 l0_3 (ji58)).f3))) (ds:=[]) (mkp 57 0) (by kernel_rfl) rfl rfl ⟨bl BK127.out 0,bl BK127.out 1,bl BK127.out 2,bl BK127.out 3,bl BK123.out 0,bl BK123.out 1,bl BK123.out 2,bl BK123.out 3,(lx (bw HB.out) hw128_0),(lx (bw HB.out) hw128_1),(lx (bw HB.out) hw128_2),(lx (bw HB.out) hw128_3)⟩ (fun hHeld=> ?_);refine with_tabW impl_AutomatonValid.tab6 impl_AutomatonValid.bits6 (fun HT_ HW_=> ?_);generalize w72.drew=w73 at BK123 BK127 HB hx128_0 hx128_1 hx128_2 hx128_3 hHeld ⊢;(iterate 5 (first|refine qv HT_ ?_|refine tk HT_ HW_ hHeld ?_));refine pv 6 49 57 95 HT_ ?_;refine tkm 5 48 (mkp 57 7) HT_ HW_ hHeld ?_;(iterate 10 (first|refine qv HT_ ?_|refine tk HT_ HW_ hHeld ?_));refine pv 18 61 57 393215 HT_ ?_;refine tkm 17 60 (mkp 57 19) HT_ HW_ hHeld ?_;(iterate 28 (first|refine qu HT_ ?_|refine qv HT_ ?_|refine tk HT_ HW_ hHeld ?_));refine pv 48 91 57 422212465065983 HT_ ?_;refine pv 49 92 57 985162418487295 HT_ ?_;refine tkm 47 90 (mkp 57 50) HT_ HW_ hHeld ?_;(iterate 3 (first|refine qv HT_ ?_|refine tk HT_ HW_ hHeld ?_));refine on 53 (mkp 57 54) HT_ (fun K hK=> ?_);refine goes_ Try.func61 (by kernel_rfl) rfl #[.agg #[.int .i64 ((rd_T32 l0_3 (ji58)).f0), .string ((rd_T32 l0_3 (ji58)).f1), .int .i64 ((rd_T32 l0_3 (ji58)).f2), .int .i64 ((rd_T32 l0_3 (ji58)).f3)], .agg #[.int .i64 ((rd_T32 l0_3 x38_2).f0), .string ((rd_T32 l0_3 x38_2).f1), .int .i64 ((rd_T32 l0_3 x38_2).f2), .int .i64 ((rd_T32 l0_3 x38_2).f3)]] (by rfl) rfl rfl (by (try simp only [List.map_toArray,List.map_cons,List.map_nil]);first|done|(simp only [hji58];rfl)|rfl|(simp only [List.length_drop,List.length_take];rfl)) ?_
                    with_reducible refine (impl_stepOrder.calls k2 ((rd_T32 l0_3 (ji58)).f0) ((rd_T32 l0_3 (ji58)).f1) ((rd_T32 l0_3 (ji58)).f2) ((rd_T32 l0_3 (ji58)).f3) ((rd_T32 l0_3 x38_2).f0) ((rd_T32 l0_3 x38_2).f1) ((rd_T32 l0_3 x38_2).f2) ((rd_T32 l0_3 x38_2).f3) t129 _ A61.out).mono ?_
                    rintro e w74 ⟨rfl,hb⟩;refine ⟨_,rfl,?_⟩;replace BK123:=bk BK123 hb;replace BK127:=bk BK127 hb;replace HB:=hs HB hb;(try clear hb);refine hK.out _ _ ⟨bl BK127.out 0,bl BK127.out 1,bl BK127.out 2,bl BK127.out 3,bl BK123.out 0,bl BK123.out 1,bl BK123.out 2,bl BK123.out 3,(lx (bw HB.out) hw128_0),(lx (bw HB.out) hw128_1),(lx (bw HB.out) hw128_2),(lx (bw HB.out) hw128_3)⟩ (fun hHeld=> ?_);clear hK K;refine norm_ (a':= ?_) ?_ ?_;rotate_left
                    ·show Act.put _ (some 96) _=_;simp only [Act.put,List.setIfInBounds_toArray,List.set_cons_zero,List.set_cons_succ,i64_w,i32_w];rfl
                    (iterate 3 refine qv HT_ ?_);refine done_ (done_of HT_.out (by kernel_rfl)) ?_;(try go_wp2);go_roundg k2
                    case measure=>have:=HJ1.out;have:=HK2.out;omega
                    case rel=>exact ⟨(wrap64 (x38_2+1)),(by first|rfl|(simp;done)|(simp [*];done)),H',⟨by have:=HJ1.out;have:=HK2.out;omega⟩,⟨kz BK123.out⟩,⟨by exact bw HB.out⟩⟩
                  ·rw [if_neg c60] at H;exact absurd H (by simp)
                 ·rw [if_neg c59] at H;exact absurd H (by simp)
                ·rw [if_neg c57] at H;have c57b0:decide (0<x38_2)=false:=decide_eq_false c57;clear c57;have H':=am H;clear H;have p126:0≤(x38_2:Int):=da;have q126:x38_2<(l0_3.length:Int):=da;obtain ⟨ad126,e126,hx126_0,hx126_1,hx126_2,hx126_3⟩:=at_T32 HR0_3.out x38_2 p126 q126;cases e126;replace hx126_0:=lx (bw HB.out) hx126_0;replace hx126_1:=lx (bw HB.out) hx126_1;replace hx126_2:=lx (bw HB.out) hx126_2;replace hx126_3:=lx (bw HB.out) hx126_3;replace p126:=eq_true p126;replace q126:=eq_true q126;(try go_wp2_with (first|((with_reducible refine gx 4 rfl ?_);(try (refine gate_guard (by rfl) ?_;dsimp only));refine be (cs:= #[.int .i64 0, .string (⟨#[]⟩:ByteArray), .int .i64 0, .int .i64 0]) (t:=32) ?_;intro gb127 hg w75 hbox hb;have BK127:=am (hbox);have GW127:=gs hg (bw HB.out);have GE127:=gs hg (bw HB.out);replace HB:=hs HB hb;have NB123_127:=nl hg (kz BK123.out);have NB127_123:=nr hg (kz BK123.out);replace BK123:=bk BK123 hb;clear hb hbox hg;have hnb76:=NB127_123.out;have hnc76:=NB123_127.out;have hz77:=zf4 BK127.out)));generalize hW_:((((w75.setCell ⟨gb127,0,none⟩ (.int .i64 ((rd_T32 l0_3 x38_2).f0))).setCell ⟨gb127,1,none⟩ (.string ((rd_T32 l0_3 x38_2).f1))).setCell ⟨gb127,2,none⟩ (.int .i64 ((rd_T32 l0_3 x38_2).f2))).setCell ⟨gb127,3,none⟩ (.int .i64 ((rd_T32 l0_3 x38_2).f3)))=w78;have n0_:Aside0 (w78.heap[gb123]? =some (.cells #[.int .i64 a0_0, .slice A0_1 l0_1.length c0_1, .slice A0_2 l0_2.length c0_2, .slice (some ad126) l0_3.length c0_3] 26 (0,0))):=⟨by rw [←hW_];exact kp BK123.out⟩;have n1_:Aside0 (w78.heap[gb127]? =some (.cells #[.int .i64 ((rd_T32 l0_3 x38_2).f0), .string ((rd_T32 l0_3 x38_2).f1), .int .i64 ((rd_T32 l0_3 x38_2).f2), .int .i64 ((rd_T32 l0_3 x38_2).f3)] 32 (0,0))):=⟨by rw [←hW_];exact kp BK127.out⟩;have n2_:Aside0 (Below w.heap.size w w78):=⟨by rw [←hW_];exact bw HB.out⟩;(try clear BK123);(try clear BK127);(try clear HB);clear hW_;revert n0_ n1_ n2_;intro BK123 BK127 HB;replace BK123:=am (blk_drew BK123.out);replace BK127:=am (blk_drew BK127.out);replace HB:=am (below_drew1 HB.out);refine start_ (n:=57) (S:=fun w'=>w'.cell? ⟨gb127,0,none⟩=some (.int .i64 ((rd_T32 l0_3 x38_2).f0))∧w'.cell? ⟨gb127,1,none⟩=some (.string ((rd_T32 l0_3 x38_2).f1))∧w'.cell? ⟨gb127,2,none⟩=some (.int .i64 ((rd_T32 l0_3 x38_2).f2))∧w'.cell? ⟨gb127,3,none⟩=some (.int .i64 ((rd_T32 l0_3 x38_2).f3))∧w'.cell? ⟨gb123,0,none⟩=some (.int .i64 a0_0)∧w'.cell? ⟨gb123,1,none⟩=some (.slice A0_1 l0_1.length c0_1)∧w'.cell? ⟨gb123,2,none⟩=some (.slice A0_2 l0_2.length c0_2)∧w'.cell? ⟨gb123,3,none⟩=some (.slice (some ad126) l0_3.length c0_3)) (ds:=[]) (mkp 57 0) (by kernel_rfl) rfl rfl ⟨bl BK127.out 0,bl BK127.out 1,bl BK127.out 2,bl BK127.out 3,bl BK123.out 0,bl BK123.out 1,bl BK123.out 2,bl BK123.out 3⟩ (fun hHeld=> ?_);refine with_tabW impl_AutomatonValid.tab6 impl_AutomatonValid.bits6 (fun HT_ HW_=> ?_);generalize w78.drew=w79 at BK123 BK127 HB hHeld ⊢;(iterate 5 (first|refine qv HT_ ?_|refine tk HT_ HW_ hHeld ?_));refine pv 6 49 57 95 HT_ ?_;refine tkm 5 48 (mkp 57 7) HT_ HW_ hHeld ?_;(iterate 10 (first|refine qv HT_ ?_|refine tk HT_ HW_ hHeld ?_));refine pv 18 61 57 393215 HT_ ?_;refine tkm 17 60 (mkp 57 19) HT_ HW_ hHeld ?_;(iterate 38 (first|refine qu HT_ ?_|refine qv HT_ ?_|refine tk HT_ HW_ hHeld ?_));refine done_ (done_of HT_.out (by kernel_rfl)) ?_;(try go_wp2);go_roundg k2
                 case measure=>have:=HJ1.out;have:=HK2.out;omega
                 case rel=>exact ⟨(wrap64 (x38_2+1)),(by first|rfl|(simp;done)|(simp [*];done)),H',⟨by have:=HJ1.out;have:=HK2.out;omega⟩,⟨kz BK123.out⟩,⟨by exact bw HB.out⟩⟩
             ·rw [if_neg c44] at H;have c44b0:(((rd_T32 l0_3 x38_2).f1).toList==([97]:List UInt8))=false:=beq_eq_false_iff_ne.mpr c44;have c44b1:(((rd_T32 l0_3 x38_2).f1).toList != ([97]:List UInt8))=true:=bne_iff_ne.mpr c44;by_cases c80:((rd_T32 l0_3 x38_2).f1).toList=([98]:List UInt8)
              ·rw [if_pos c80] at H;have c80b0:(((rd_T32 l0_3 x38_2).f1).toList==([98]:List UInt8))=true:=beq_iff_eq.mpr c80;have c80b1:(((rd_T32 l0_3 x38_2).f1).toList != ([98]:List UInt8))=false:=bne_eq_false_iff_eq.mpr c80;clear c80;by_cases c81:((rd_T32 l0_3 x38_2).f3)<0
               ·rw [if_pos c81] at H;have c81b0:=decide_eq_true c81;clear c81;obtain rfl:=Option.some.inj H;have p126:0≤(x38_2:Int):=da;have q126:x38_2<(l0_3.length:Int):=da;obtain ⟨ad126,e126,hx126_0,hx126_1,hx126_2,hx126_3⟩:=at_T32 HR0_3.out x38_2 p126 q126;cases e126;replace hx126_0:=lx (bw HB.out) hx126_0;replace hx126_1:=lx (bw HB.out) hx126_1;replace hx126_2:=lx (bw HB.out) hx126_2;replace hx126_3:=lx (bw HB.out) hx126_3;replace p126:=eq_true p126;replace q126:=eq_true q126;(try go_wp2_with (first|((with_reducible refine gx 4 rfl ?_);(try (refine gate_guard (by rfl) ?_;dsimp only));refine be (cs:= #[.int .i64 0, .string (⟨#[]⟩:ByteArray), .int .i64 0, .int .i64 0]) (t:=32) ?_;intro gb127 hg w82 hbox hb;have BK127:=am (hbox);have GW127:=gs hg (bw HB.out);have GE127:=gs hg (bw HB.out);replace HB:=hs HB hb;have NB123_127:=nl hg (kz BK123.out);have NB127_123:=nr hg (kz BK123.out);replace BK123:=bk BK123 hb;clear hb hbox hg;have hnb83:=NB127_123.out;have hnc83:=NB123_127.out;have hz84:=zf4 BK127.out)));generalize hW_:((((w82.setCell ⟨gb127,0,none⟩ (.int .i64 ((rd_T32 l0_3 x38_2).f0))).setCell ⟨gb127,1,none⟩ (.string ((rd_T32 l0_3 x38_2).f1))).setCell ⟨gb127,2,none⟩ (.int .i64 ((rd_T32 l0_3 x38_2).f2))).setCell ⟨gb127,3,none⟩ (.int .i64 ((rd_T32 l0_3 x38_2).f3)))=w85;have n0_:Aside0 (w85.heap[gb123]? =some (.cells #[.int .i64 a0_0, .slice A0_1 l0_1.length c0_1, .slice A0_2 l0_2.length c0_2, .slice (some ad126) l0_3.length c0_3] 26 (0,0))):=⟨by rw [←hW_];exact kp BK123.out⟩;have n1_:Aside0 (w85.heap[gb127]? =some (.cells #[.int .i64 ((rd_T32 l0_3 x38_2).f0), .string ((rd_T32 l0_3 x38_2).f1), .int .i64 ((rd_T32 l0_3 x38_2).f2), .int .i64 ((rd_T32 l0_3 x38_2).f3)] 32 (0,0))):=⟨by rw [←hW_];exact kp BK127.out⟩;have n2_:Aside0 (Below w.heap.size w w85):=⟨by rw [←hW_];exact bw HB.out⟩;(try clear BK123);(try clear BK127);(try clear HB);clear hW_;revert n0_ n1_ n2_;intro BK123 BK127 HB;replace BK123:=am (blk_drew BK123.out);replace BK127:=am (blk_drew BK127.out);replace HB:=am (below_drew1 HB.out);refine start_ (n:=57) (S:=fun w'=>w'.cell? ⟨gb127,0,none⟩=some (.int .i64 ((rd_T32 l0_3 x38_2).f0))∧w'.cell? ⟨gb127,1,none⟩=some (.string ((rd_T32 l0_3 x38_2).f1))∧w'.cell? ⟨gb127,2,none⟩=some (.int .i64 ((rd_T32 l0_3 x38_2).f2))∧w'.cell? ⟨gb127,3,none⟩=some (.int .i64 ((rd_T32 l0_3 x38_2).f3))∧w'.cell? ⟨gb123,0,none⟩=some (.int .i64 a0_0)∧w'.cell? ⟨gb123,1,none⟩=some (.slice A0_1 l0_1.length c0_1)∧w'.cell? ⟨gb123,2,none⟩=some (.slice A0_2 l0_2.length c0_2)∧w'.cell? ⟨gb123,3,none⟩=some (.slice (some ad126) l0_3.length c0_3)) (ds:=[]) (mkp 57 0) (by kernel_rfl) rfl rfl ⟨bl BK127.out 0,bl BK127.out 1,bl BK127.out 2,bl BK127.out 3,bl BK123.out 0,bl BK123.out 1,bl BK123.out 2,bl BK123.out 3⟩ (fun hHeld=> ?_);refine with_tabW impl_AutomatonValid.tab6 impl_AutomatonValid.bits6 (fun HT_ HW_=> ?_);generalize w85.drew=w86 at BK123 BK127 HB hHeld ⊢;(iterate 5 (first|refine qv HT_ ?_|refine tk HT_ HW_ hHeld ?_));refine pv 6 49 57 95 HT_ ?_;refine tkm 5 48 (mkp 57 7) HT_ HW_ hHeld ?_;(iterate 10 (first|refine qv HT_ ?_|refine tk HT_ HW_ hHeld ?_));refine pv 18 61 57 393215 HT_ ?_;refine tkm 17 60 (mkp 57 19) HT_ HW_ hHeld ?_;(iterate 38 (first|refine qu HT_ ?_|refine qv HT_ ?_|refine tk HT_ HW_ hHeld ?_));refine done_ (done_of HT_.out (by kernel_rfl)) ?_;(try go_wp2);go_ret;exact ⟨by first|rfl|(simp [errW_none,errW_some]<;> rfl)|(simp [*,errW_none,errW_some]<;> rfl),by exact bw HB.out⟩
               ·rw [if_neg c81] at H;have c81b0:=decide_eq_false c81;clear c81;by_cases c87:((rd_T32 l0_3 x38_2).f3)>3
                ·rw [if_pos c87] at H;have c87b0:decide (3<((rd_T32 l0_3 x38_2).f3))=true:=decide_eq_true c87;clear c87;obtain rfl:=Option.some.inj H;have p126:0≤(x38_2:Int):=da;have q126:x38_2<(l0_3.length:Int):=da;obtain ⟨ad126,e126,hx126_0,hx126_1,hx126_2,hx126_3⟩:=at_T32 HR0_3.out x38_2 p126 q126;cases e126;replace hx126_0:=lx (bw HB.out) hx126_0;replace hx126_1:=lx (bw HB.out) hx126_1;replace hx126_2:=lx (bw HB.out) hx126_2;replace hx126_3:=lx (bw HB.out) hx126_3;replace p126:=eq_true p126;replace q126:=eq_true q126;(try go_wp2_with (first|((with_reducible refine gx 4 rfl ?_);(try (refine gate_guard (by rfl) ?_;dsimp only));refine be (cs:= #[.int .i64 0, .string (⟨#[]⟩:ByteArray), .int .i64 0, .int .i64 0]) (t:=32) ?_;intro gb127 hg w88 hbox hb;have BK127:=am (hbox);have GW127:=gs hg (bw HB.out);have GE127:=gs hg (bw HB.out);replace HB:=hs HB hb;have NB123_127:=nl hg (kz BK123.out);have NB127_123:=nr hg (kz BK123.out);replace BK123:=bk BK123 hb;clear hb hbox hg;have hnb89:=NB127_123.out;have hnc89:=NB123_127.out;have hz90:=zf4 BK127.out)));generalize hW_:((((w88.setCell ⟨gb127,0,none⟩ (.int .i64 ((rd_T32 l0_3 x38_2).f0))).setCell ⟨gb127,1,none⟩ (.string ((rd_T32 l0_3 x38_2).f1))).setCell ⟨gb127,2,none⟩ (.int .i64 ((rd_T32 l0_3 x38_2).f2))).setCell ⟨gb127,3,none⟩ (.int .i64 ((rd_T32 l0_3 x38_2).f3)))=w91;have n0_:Aside0 (w91.heap[gb123]? =some (.cells #[.int .i64 a0_0, .slice A0_1 l0_1.length c0_1, .slice A0_2 l0_2.length c0_2, .slice (some ad126) l0_3.length c0_3] 26 (0,0))):=⟨by rw [←hW_];exact kp BK123.out⟩;have n1_:Aside0 (w91.heap[gb127]? =some (.cells #[.int .i64 ((rd_T32 l0_3 x38_2).f0), .string ((rd_T32 l0_3 x38_2).f1), .int .i64 ((rd_T32 l0_3 x38_2).f2), .int .i64 ((rd_T32 l0_3 x38_2).f3)] 32 (0,0))):=⟨by rw [←hW_];exact kp BK127.out⟩;have n2_:Aside0 (Below w.heap.size w w91):=⟨by rw [←hW_];exact bw HB.out⟩;(try clear BK123);(try clear BK127);(try clear HB);clear hW_;revert n0_ n1_ n2_;intro BK123 BK127 HB;replace BK123:=am (blk_drew BK123.out);replace BK127:=am (blk_drew BK127.out);replace HB:=am (below_drew1 HB.out);refine start_ (n:=57) (S:=fun w'=>w'.cell? ⟨gb127,0,none⟩=some (.int .i64 ((rd_T32 l0_3 x38_2).f0))∧w'.cell? ⟨gb127,1,none⟩=some (.string ((rd_T32 l0_3 x38_2).f1))∧w'.cell? ⟨gb127,2,none⟩=some (.int .i64 ((rd_T32 l0_3 x38_2).f2))∧w'.cell? ⟨gb127,3,none⟩=some (.int .i64 ((rd_T32 l0_3 x38_2).f3))∧w'.cell? ⟨gb123,0,none⟩=some (.int .i64 a0_0)∧w'.cell? ⟨gb123,1,none⟩=some (.slice A0_1 l0_1.length c0_1)∧w'.cell? ⟨gb123,2,none⟩=some (.slice A0_2 l0_2.length c0_2)∧w'.cell? ⟨gb123,3,none⟩=some (.slice (some ad126) l0_3.length c0_3)) (ds:=[]) (mkp 57 0) (by kernel_rfl) rfl rfl ⟨bl BK127.out 0,bl BK127.out 1,bl BK127.out 2,bl BK127.out 3,bl BK123.out 0,bl BK123.out 1,bl BK123.out 2,bl BK123.out 3⟩ (fun hHeld=> ?_);refine with_tabW impl_AutomatonValid.tab6 impl_AutomatonValid.bits6 (fun HT_ HW_=> ?_);generalize w91.drew=w92 at BK123 BK127 HB hHeld ⊢;(iterate 5 (first|refine qv HT_ ?_|refine tk HT_ HW_ hHeld ?_));refine pv 6 49 57 95 HT_ ?_;refine tkm 5 48 (mkp 57 7) HT_ HW_ hHeld ?_;(iterate 10 (first|refine qv HT_ ?_|refine tk HT_ HW_ hHeld ?_));refine pv 18 61 57 393215 HT_ ?_;refine tkm 17 60 (mkp 57 19) HT_ HW_ hHeld ?_;(iterate 38 (first|refine qu HT_ ?_|refine qv HT_ ?_|refine tk HT_ HW_ hHeld ?_));refine done_ (done_of HT_.out (by kernel_rfl)) ?_;(try go_wp2);go_ret;exact ⟨by first|rfl|(simp [errW_none,errW_some]<;> rfl)|(simp [*,errW_none,errW_some]<;> rfl),by exact bw HB.out⟩
                ·rw [if_neg c87] at H;have c87b0:decide (3<((rd_T32 l0_3 x38_2).f3))=false:=decide_eq_false c87;clear c87;by_cases c93:x38_2>0
                 ·rw [if_pos c93] at H;have c93b0:decide (0<x38_2)=true:=decide_eq_true c93;clear c93;obtain ⟨ji94,hji94⟩:∃j_:Int,(wrap64 (x38_2 - 1))=j_:=⟨_,rfl⟩
                  replace H:(if 0≤(ji94) then (if (ji94)<(l0_3.length:Int) then ((impl_stepOrder.f k2 ((rd_T32 l0_3 (ji94)).f0) ((rd_T32 l0_3 (ji94)).f1) ((rd_T32 l0_3 (ji94)).f2) ((rd_T32 l0_3 (ji94)).f3) ((rd_T32 l0_3 x38_2).f0) ((rd_T32 l0_3 x38_2).f1) ((rd_T32 l0_3 x38_2).f2) ((rd_T32 l0_3 x38_2).f3)).bind fun t131=>(if t131≥0 then (some false) else (impl_AutomatonValid.l0 k2 l0_3 (l0_3.length:Int) (wrap64 (x38_2+1)) a0_0 l0_1 l0_2 l0_3))) else (none)) else (none))=some r:=by first|(rw [hji94] at H;exact H)|(simp only [hji94] at H ⊢;exact H)
                  have hji94w:(IntKind.i64.wrap (x38_2 - 1))=ji94:=(i64_w _).trans hji94;by_cases c95:0≤(ji94)
                  ·rw [if_pos c95] at H;have c95b0:=decide_eq_true c95;clear c95;by_cases c96:(ji94)<(l0_3.length:Int)
                   ·rw [if_pos c96] at H;have c96b0:=decide_eq_true c96;clear c96;obtain ⟨t131,A97,H⟩:=bO H;(try dsimp only at H);by_cases c98:t131≥0
                    ·rw [if_pos c98] at H;have c98b0:decide (0≤t131)=true:=decide_eq_true c98;clear c98;obtain rfl:=Option.some.inj H;have p126:0≤(x38_2:Int):=da;have q126:x38_2<(l0_3.length:Int):=da;obtain ⟨ad126,e126,hx126_0,hx126_1,hx126_2,hx126_3⟩:=at_T32 HR0_3.out x38_2 p126 q126;cases e126;replace hx126_0:=lx (bw HB.out) hx126_0;replace hx126_1:=lx (bw HB.out) hx126_1;replace hx126_2:=lx (bw HB.out) hx126_2;replace hx126_3:=lx (bw HB.out) hx126_3;replace p126:=eq_true p126;replace q126:=eq_true q126;(try go_wp2_with (first|((with_reducible refine gx 4 rfl ?_);(try (refine gate_guard (by rfl) ?_;dsimp only));refine be (cs:= #[.int .i64 0, .string (⟨#[]⟩:ByteArray), .int .i64 0, .int .i64 0]) (t:=32) ?_;intro gb127 hg w99 hbox hb;have BK127:=am (hbox);have GW127:=gs hg (bw HB.out);have GE127:=gs hg (bw HB.out);replace HB:=hs HB hb;have NB123_127:=nl hg (kz BK123.out);have NB127_123:=nr hg (kz BK123.out);replace BK123:=bk BK123 hb;clear hb hbox hg;have hnb100:=NB127_123.out;have hnc100:=NB123_127.out;have hz101:=zf4 BK127.out)));generalize hW_:((((w99.setCell ⟨gb127,0,none⟩ (.int .i64 ((rd_T32 l0_3 x38_2).f0))).setCell ⟨gb127,1,none⟩ (.string ((rd_T32 l0_3 x38_2).f1))).setCell ⟨gb127,2,none⟩ (.int .i64 ((rd_T32 l0_3 x38_2).f2))).setCell ⟨gb127,3,none⟩ (.int .i64 ((rd_T32 l0_3 x38_2).f3)))=w102;have n0_:Aside0 (w102.heap[gb123]? =some (.cells #[.int .i64 a0_0, .slice A0_1 l0_1.length c0_1, .slice A0_2 l0_2.length c0_2, .slice (some ad126) l0_3.length c0_3] 26 (0,0))):=⟨by rw [←hW_];exact kp BK123.out⟩;have n1_:Aside0 (w102.heap[gb127]? =some (.cells #[.int .i64 ((rd_T32 l0_3 x38_2).f0), .string ((rd_T32 l0_3 x38_2).f1), .int .i64 ((rd_T32 l0_3 x38_2).f2), .int .i64 ((rd_T32 l0_3 x38_2).f3)] 32 (0,0))):=⟨by rw [←hW_];exact kp BK127.out⟩;have n2_:Aside0 (Below w.heap.size w w102):=⟨by rw [←hW_];exact bw HB.out⟩;(try clear BK123);(try clear BK127);(try clear HB);clear hW_;revert n0_ n1_ n2_;intro BK123 BK127 HB;replace BK123:=am (blk_drew BK123.out);replace BK127:=am (blk_drew BK127.out);replace HB:=am (below_drew1 HB.out);have p130:0≤((ji94):Int):=da;have q130:(ji94)<(l0_3.length:Int):=da;obtain ⟨ad130,e130,hx130_0,hx130_1,hx130_2,hx130_3⟩:=at_T32 HR0_3.out (ji94) p130 q130;have hw130_3:=hx130_3;have hw130_2:=hx130_2;have hw130_1:=hx130_1;have hw130_0:=hx130_0;obtain rfl:ad126=ad130:=(by injection e130);replace hx130_0:=lx (bw HB.out) hx130_0;replace hx130_1:=lx (bw HB.out) hx130_1;replace hx130_2:=lx (bw HB.out) hx130_2;replace hx130_3:=lx (bw HB.out) hx130_3;replace p130:=eq_true p130;replace q130:=eq_true q130;refine start_ (n:=57) (S:=fun w'=>w'.cell? ⟨gb127,0,none⟩=some (.int .i64 ((rd_T32 l0_3 x38_2).f0))∧w'.cell? ⟨gb127,1,none⟩=some (.string ((rd_T32 l0_3 x38_2).f1))∧w'.cell? ⟨gb127,2,none⟩=some (.int .i64 ((rd_T32 l0_3 x38_2).f2))∧w'.cell? ⟨gb127,3,none⟩=some (.int .i64 ((rd_T32 l0_3 x38_2).f3))∧w'.cell? ⟨gb123,0,none⟩=some (.int .i64 a0_0)∧w'.cell? ⟨gb123,1,none⟩=some (.slice A0_1 l0_1.length c0_1)∧w'.cell? ⟨gb123,2,none⟩=some (.slice A0_2 l0_2.length c0_2)∧w'.cell? ⟨gb123,3,none⟩=some (.slice (some ad126) l0_3.length c0_3)∧w'.cell? (ad126.add (((ji94)).toNat*4))=some (.int .i64 ((rd_T32 l0_3 (ji94)).f0))∧w'.cell? ⟨(ad126.add (((ji94)).toNat*4)).block,(ad126.add (((ji94)).toNat*4)).off+1,none⟩=some (.string ((rd_T32 l0_3 (ji94)).f1))∧w'.cell? ⟨(ad126.add (((ji94)).toNat*4)).block,(ad126.add (((ji94)).toNat*4)).off+2,none⟩=some (.int .i64 ((rd_T32 l0_3 (ji94)).f2))∧w'.cell? ⟨(ad126.add (((ji94)).toNat*4)).block,(ad126.add (((ji94)).toNat*4)).off+3,none⟩=some (.int .i64 ((rd_T32 l0_3 (ji94)).f3))) (ds:=[]) (mkp 57 0) (by kernel_rfl) rfl rfl ⟨bl BK127.out 0,bl BK127.out 1,bl BK127.out 2,bl BK127.out 3,bl BK123.out 0,bl BK123.out 1,bl BK123.out 2,bl BK123.out 3,(lx (bw HB.out) hw130_0),(lx (bw HB.out) hw130_1),(lx (bw HB.out) hw130_2),(lx (bw HB.out) hw130_3)⟩ (fun hHeld=> ?_);refine with_tabW impl_AutomatonValid.tab6 impl_AutomatonValid.bits6 (fun HT_ HW_=> ?_);generalize w102.drew=w103 at BK123 BK127 HB hx130_0 hx130_1 hx130_2 hx130_3 hHeld ⊢;(iterate 5 (first|refine qv HT_ ?_|refine tk HT_ HW_ hHeld ?_));refine pv 6 49 57 95 HT_ ?_;refine tkm 5 48 (mkp 57 7) HT_ HW_ hHeld ?_;(iterate 10 (first|refine qv HT_ ?_|refine tk HT_ HW_ hHeld ?_));refine pv 18 61 57 393215 HT_ ?_;refine tkm 17 60 (mkp 57 19) HT_ HW_ hHeld ?_;(iterate 28 (first|refine qv HT_ ?_|refine tk HT_ HW_ hHeld ?_));refine pv 48 91 57 422212465065983 HT_ ?_;refine pv 49 92 57 985162418487295 HT_ ?_;refine tkm 47 90 (mkp 57 50) HT_ HW_ hHeld ?_;(iterate 3 (first|refine qv HT_ ?_|refine tk HT_ HW_ hHeld ?_));refine on 53 (mkp 57 54) HT_ (fun K hK=> ?_);refine goes_ Try.func61 (by kernel_rfl) rfl #[.agg #[.int .i64 ((rd_T32 l0_3 (ji94)).f0), .string ((rd_T32 l0_3 (ji94)).f1), .int .i64 ((rd_T32 l0_3 (ji94)).f2), .int .i64 ((rd_T32 l0_3 (ji94)).f3)], .agg #[.int .i64 ((rd_T32 l0_3 x38_2).f0), .string ((rd_T32 l0_3 x38_2).f1), .int .i64 ((rd_T32 l0_3 x38_2).f2), .int .i64 ((rd_T32 l0_3 x38_2).f3)]] (by rfl) rfl rfl (by (try simp only [List.map_toArray,List.map_cons,List.map_nil]);first|done|(simp only [hji94];rfl)|rfl|(simp only [List.length_drop,List.length_take];rfl)) ?_
                     with_reducible refine (impl_stepOrder.calls k2 ((rd_T32 l0_3 (ji94)).f0) ((rd_T32 l0_3 (ji94)).f1) ((rd_T32 l0_3 (ji94)).f2) ((rd_T32 l0_3 (ji94)).f3) ((rd_T32 l0_3 x38_2).f0) ((rd_T32 l0_3 x38_2).f1) ((rd_T32 l0_3 x38_2).f2) ((rd_T32 l0_3 x38_2).f3) t131 _ A97.out).mono ?_
                     rintro e w104 ⟨rfl,hb⟩;refine ⟨_,rfl,?_⟩;replace BK123:=bk BK123 hb;replace BK127:=bk BK127 hb;replace HB:=hs HB hb;(try clear hb);refine hK.out _ _ ⟨bl BK127.out 0,bl BK127.out 1,bl BK127.out 2,bl BK127.out 3,bl BK123.out 0,bl BK123.out 1,bl BK123.out 2,bl BK123.out 3,(lx (bw HB.out) hw130_0),(lx (bw HB.out) hw130_1),(lx (bw HB.out) hw130_2),(lx (bw HB.out) hw130_3)⟩ (fun hHeld=> ?_);clear hK K;refine norm_ (a':= ?_) ?_ ?_;rotate_left
                     ·show Act.put _ (some 96) _=_;simp only [Act.put,List.setIfInBounds_toArray,List.set_cons_zero,List.set_cons_succ,i64_w,i32_w];rfl
                     (iterate 3 refine qv HT_ ?_);refine done_ (done_of HT_.out (by kernel_rfl)) ?_;(try go_wp2);go_ret;exact ⟨by first|rfl|(simp [errW_none,errW_some]<;> rfl)|(simp only [←hji94];first|rfl|(simp [errW_none,errW_some]<;> rfl))|(simp [*,errW_none,errW_some]<;> rfl),by exact bw HB.out⟩
                    ·rw [if_neg c98] at H;have c98b0:decide (0≤t131)=false:=decide_eq_false c98;clear c98;have H':=am H;clear H;have p126:0≤(x38_2:Int):=da;have q126:x38_2<(l0_3.length:Int):=da;obtain ⟨ad126,e126,hx126_0,hx126_1,hx126_2,hx126_3⟩:=at_T32 HR0_3.out x38_2 p126 q126;cases e126;replace hx126_0:=lx (bw HB.out) hx126_0;replace hx126_1:=lx (bw HB.out) hx126_1;replace hx126_2:=lx (bw HB.out) hx126_2;replace hx126_3:=lx (bw HB.out) hx126_3;replace p126:=eq_true p126;replace q126:=eq_true q126;(try go_wp2_with (first|((with_reducible refine gx 4 rfl ?_);(try (refine gate_guard (by rfl) ?_;dsimp only));refine be (cs:= #[.int .i64 0, .string (⟨#[]⟩:ByteArray), .int .i64 0, .int .i64 0]) (t:=32) ?_;intro gb127 hg w105 hbox hb;have BK127:=am (hbox);have GW127:=gs hg (bw HB.out);have GE127:=gs hg (bw HB.out);replace HB:=hs HB hb;have NB123_127:=nl hg (kz BK123.out);have NB127_123:=nr hg (kz BK123.out);replace BK123:=bk BK123 hb;clear hb hbox hg;have hnb106:=NB127_123.out;have hnc106:=NB123_127.out;have hz107:=zf4 BK127.out)));generalize hW_:((((w105.setCell ⟨gb127,0,none⟩ (.int .i64 ((rd_T32 l0_3 x38_2).f0))).setCell ⟨gb127,1,none⟩ (.string ((rd_T32 l0_3 x38_2).f1))).setCell ⟨gb127,2,none⟩ (.int .i64 ((rd_T32 l0_3 x38_2).f2))).setCell ⟨gb127,3,none⟩ (.int .i64 ((rd_T32 l0_3 x38_2).f3)))=w108;have n0_:Aside0 (w108.heap[gb123]? =some (.cells #[.int .i64 a0_0, .slice A0_1 l0_1.length c0_1, .slice A0_2 l0_2.length c0_2, .slice (some ad126) l0_3.length c0_3] 26 (0,0))):=⟨by rw [←hW_];exact kp BK123.out⟩;have n1_:Aside0 (w108.heap[gb127]? =some (.cells #[.int .i64 ((rd_T32 l0_3 x38_2).f0), .string ((rd_T32 l0_3 x38_2).f1), .int .i64 ((rd_T32 l0_3 x38_2).f2), .int .i64 ((rd_T32 l0_3 x38_2).f3)] 32 (0,0))):=⟨by rw [←hW_];exact kp BK127.out⟩;have n2_:Aside0 (Below w.heap.size w w108):=⟨by rw [←hW_];exact bw HB.out⟩;(try clear BK123);(try clear BK127);(try clear HB);clear hW_;revert n0_ n1_ n2_;intro BK123 BK127 HB;replace BK123:=am (blk_drew BK123.out);replace BK127:=am (blk_drew BK127.out);replace HB:=am (below_drew1 HB.out);have p130:0≤((ji94):Int):=da;have q130:(ji94)<(l0_3.length:Int):=da;obtain ⟨ad130,e130,hx130_0,hx130_1,hx130_2,hx130_3⟩:=at_T32 HR0_3.out (ji94) p130 q130;have hw130_3:=hx130_3;have hw130_2:=hx130_2;have hw130_1:=hx130_1;have hw130_0:=hx130_0;obtain rfl:ad126=ad130:=(by injection e130);replace hx130_0:=lx (bw HB.out) hx130_0;replace hx130_1:=lx (bw HB.out) hx130_1;replace hx130_2:=lx (bw HB.out) hx130_2;replace hx130_3:=lx (bw HB.out) hx130_3;replace p130:=eq_true p130;replace q130:=eq_true q130;refine start_ (n:=57) (S:=fun w'=>w'.cell? ⟨gb127,0,none⟩=some (.int .i64 ((rd_T32 l0_3 x38_2).f0))∧w'.cell? ⟨gb127,1,none⟩=some (.string ((rd_T32 l0_3 x38_2).f1))∧w'.cell? ⟨gb127,2,none⟩=some (.int .i64 ((rd_T32 l0_3 x38_2).f2))∧w'.cell? ⟨gb127,3,none⟩=some (.int .i64 ((rd_T32 l0_3 x38_2).f3))∧w'.cell? ⟨gb123,0,none⟩=some (.int .i64 a0_0)∧w'.cell? ⟨gb123,1,none⟩=some (.slice A0_1 l0_1.length c0_1)∧w'.cell? ⟨gb123,2,none⟩=some (.slice A0_2 l0_2.length c0_2)∧w'.cell? ⟨gb123,3,none⟩=some (.slice (some ad126) l0_3.length c0_3)∧w'.cell? (ad126.add (((ji94)).toNat*4))=some (.int .i64 ((rd_T32 l0_3 (ji94)).f0))∧w'.cell? ⟨(ad126.add (((ji94)).toNat*4)).block,(ad126.add (((ji94)).toNat*4)).off+1,none⟩=some (.string ((rd_T32 l0_3 (ji94)).f1))∧w'.cell? ⟨(ad126.add (((ji94)).toNat*4)).block,(ad126.add (((ji94)).toNat*4)).off+2,none⟩=some (.int .i64 ((rd_T32 l0_3 (ji94)).f2))∧w'.cell? ⟨(ad126.add (((ji94)).toNat*4)).block,(ad126.add (((ji94)).toNat*4)).off+3,none⟩=some (.int .i64 ((rd_T32 l0_3 (ji94)).f3))) (ds:=[]) (mkp 57 0) (by kernel_rfl) rfl rfl ⟨bl BK127.out 0,bl BK127.out 1,bl BK127.out 2,bl BK127.out 3,bl BK123.out 0,bl BK123.out 1,bl BK123.out 2,bl BK123.out 3,(lx (bw HB.out) hw130_0),(lx (bw HB.out) hw130_1),(lx (bw HB.out) hw130_2),(lx (bw HB.out) hw130_3)⟩ (fun hHeld=> ?_);refine with_tabW impl_AutomatonValid.tab6 impl_AutomatonValid.bits6 (fun HT_ HW_=> ?_);generalize w108.drew=w109 at BK123 BK127 HB hx130_0 hx130_1 hx130_2 hx130_3 hHeld ⊢;(iterate 5 (first|refine qv HT_ ?_|refine tk HT_ HW_ hHeld ?_));refine pv 6 49 57 95 HT_ ?_;refine tkm 5 48 (mkp 57 7) HT_ HW_ hHeld ?_;(iterate 10 (first|refine qv HT_ ?_|refine tk HT_ HW_ hHeld ?_));refine pv 18 61 57 393215 HT_ ?_;refine tkm 17 60 (mkp 57 19) HT_ HW_ hHeld ?_;(iterate 28 (first|refine qv HT_ ?_|refine tk HT_ HW_ hHeld ?_));refine pv 48 91 57 422212465065983 HT_ ?_;refine pv 49 92 57 985162418487295 HT_ ?_;refine tkm 47 90 (mkp 57 50) HT_ HW_ hHeld ?_;(iterate 3 (first|refine qv HT_ ?_|refine tk HT_ HW_ hHeld ?_));refine on 53 (mkp 57 54) HT_ (fun K hK=> ?_);refine goes_ Try.func61 (by kernel_rfl) rfl #[.agg #[.int .i64 ((rd_T32 l0_3 (ji94)).f0), .string ((rd_T32 l0_3 (ji94)).f1), .int .i64 ((rd_T32 l0_3 (ji94)).f2), .int .i64 ((rd_T32 l0_3 (ji94)).f3)], .agg #[.int .i64 ((rd_T32 l0_3 x38_2).f0), .string ((rd_T32 l0_3 x38_2).f1), .int .i64 ((rd_T32 l0_3 x38_2).f2), .int .i64 ((rd_T32 l0_3 x38_2).f3)]] (by rfl) rfl rfl (by (try simp only [List.map_toArray,List.map_cons,List.map_nil]);first|done|(simp only [hji94];rfl)|rfl|(simp only [List.length_drop,List.length_take];rfl)) ?_
                     with_reducible refine (impl_stepOrder.calls k2 ((rd_T32 l0_3 (ji94)).f0) ((rd_T32 l0_3 (ji94)).f1) ((rd_T32 l0_3 (ji94)).f2) ((rd_T32 l0_3 (ji94)).f3) ((rd_T32 l0_3 x38_2).f0) ((rd_T32 l0_3 x38_2).f1) ((rd_T32 l0_3 x38_2).f2) ((rd_T32 l0_3 x38_2).f3) t131 _ A97.out).mono ?_
                     rintro e w110 ⟨rfl,hb⟩;refine ⟨_,rfl,?_⟩;replace BK123:=bk BK123 hb;replace BK127:=bk BK127 hb;replace HB:=hs HB hb;(try clear hb);refine hK.out _ _ ⟨bl BK127.out 0,bl BK127.out 1,bl BK127.out 2,bl BK127.out 3,bl BK123.out 0,bl BK123.out 1,bl BK123.out 2,bl BK123.out 3,(lx (bw HB.out) hw130_0),(lx (bw HB.out) hw130_1),(lx (bw HB.out) hw130_2),(lx (bw HB.out) hw130_3)⟩ (fun hHeld=> ?_);clear hK K;refine norm_ (a':= ?_) ?_ ?_;rotate_left
                     ·show Act.put _ (some 96) _=_;simp only [Act.put,List.setIfInBounds_toArray,List.set_cons_zero,List.set_cons_succ,i64_w,i32_w];rfl
                     (iterate 3 refine qv HT_ ?_);refine done_ (done_of HT_.out (by kernel_rfl)) ?_;(try go_wp2);go_roundg k2
                     case measure=>have:=HJ1.out;have:=HK2.out;omega
                     case rel=>exact ⟨(wrap64 (x38_2+1)),(by first|rfl|(simp;done)|(simp [*];done)),H',⟨by have:=HJ1.out;have:=HK2.out;omega⟩,⟨kz BK123.out⟩,⟨by exact bw HB.out⟩⟩
                   ·rw [if_neg c96] at H;exact absurd H (by simp)
                  ·rw [if_neg c95] at H;exact absurd H (by simp)
                 ·rw [if_neg c93] at H;have c93b0:decide (0<x38_2)=false:=decide_eq_false c93;clear c93;have H':=am H;clear H;have p126:0≤(x38_2:Int):=da;have q126:x38_2<(l0_3.length:Int):=da;obtain ⟨ad126,e126,hx126_0,hx126_1,hx126_2,hx126_3⟩:=at_T32 HR0_3.out x38_2 p126 q126;cases e126;replace hx126_0:=lx (bw HB.out) hx126_0;replace hx126_1:=lx (bw HB.out) hx126_1;replace hx126_2:=lx (bw HB.out) hx126_2;replace hx126_3:=lx (bw HB.out) hx126_3;replace p126:=eq_true p126;replace q126:=eq_true q126;(try go_wp2_with (first|((with_reducible refine gx 4 rfl ?_);(try (refine gate_guard (by rfl) ?_;dsimp only));refine be (cs:= #[.int .i64 0, .string (⟨#[]⟩:ByteArray), .int .i64 0, .int .i64 0]) (t:=32) ?_;intro gb127 hg w111 hbox hb;have BK127:=am (hbox);have GW127:=gs hg (bw HB.out);have GE127:=gs hg (bw HB.out);replace HB:=hs HB hb;have NB123_127:=nl hg (kz BK123.out);have NB127_123:=nr hg (kz BK123.out);replace BK123:=bk BK123 hb;clear hb hbox hg;have hnb112:=NB127_123.out;have hnc112:=NB123_127.out;have hz113:=zf4 BK127.out)));generalize hW_:((((w111.setCell ⟨gb127,0,none⟩ (.int .i64 ((rd_T32 l0_3 x38_2).f0))).setCell ⟨gb127,1,none⟩ (.string ((rd_T32 l0_3 x38_2).f1))).setCell ⟨gb127,2,none⟩ (.int .i64 ((rd_T32 l0_3 x38_2).f2))).setCell ⟨gb127,3,none⟩ (.int .i64 ((rd_T32 l0_3 x38_2).f3)))=w114;have n0_:Aside0 (w114.heap[gb123]? =some (.cells #[.int .i64 a0_0, .slice A0_1 l0_1.length c0_1, .slice A0_2 l0_2.length c0_2, .slice (some ad126) l0_3.length c0_3] 26 (0,0))):=⟨by rw [←hW_];exact kp BK123.out⟩;have n1_:Aside0 (w114.heap[gb127]? =some (.cells #[.int .i64 ((rd_T32 l0_3 x38_2).f0), .string ((rd_T32 l0_3 x38_2).f1), .int .i64 ((rd_T32 l0_3 x38_2).f2), .int .i64 ((rd_T32 l0_3 x38_2).f3)] 32 (0,0))):=⟨by rw [←hW_];exact kp BK127.out⟩;have n2_:Aside0 (Below w.heap.size w w114):=⟨by rw [←hW_];exact bw HB.out⟩;(try clear BK123);(try clear BK127);(try clear HB);clear hW_;revert n0_ n1_ n2_;intro BK123 BK127 HB;replace BK123:=am (blk_drew BK123.out);replace BK127:=am (blk_drew BK127.out);replace HB:=am (below_drew1 HB.out);refine start_ (n:=57) (S:=fun w'=>w'.cell? ⟨gb127,0,none⟩=some (.int .i64 ((rd_T32 l0_3 x38_2).f0))∧w'.cell? ⟨gb127,1,none⟩=some (.string ((rd_T32 l0_3 x38_2).f1))∧w'.cell? ⟨gb127,2,none⟩=some (.int .i64 ((rd_T32 l0_3 x38_2).f2))∧w'.cell? ⟨gb127,3,none⟩=some (.int .i64 ((rd_T32 l0_3 x38_2).f3))∧w'.cell? ⟨gb123,0,none⟩=some (.int .i64 a0_0)∧w'.cell? ⟨gb123,1,none⟩=some (.slice A0_1 l0_1.length c0_1)∧w'.cell? ⟨gb123,2,none⟩=some (.slice A0_2 l0_2.length c0_2)∧w'.cell? ⟨gb123,3,none⟩=some (.slice (some ad126) l0_3.length c0_3)) (ds:=[]) (mkp 57 0) (by kernel_rfl) rfl rfl ⟨bl BK127.out 0,bl BK127.out 1,bl BK127.out 2,bl BK127.out 3,bl BK123.out 0,bl BK123.out 1,bl BK123.out 2,bl BK123.out 3⟩ (fun hHeld=> ?_);refine with_tabW impl_AutomatonValid.tab6 impl_AutomatonValid.bits6 (fun HT_ HW_=> ?_);generalize w114.drew=w115 at BK123 BK127 HB hHeld ⊢;(iterate 5 (first|refine qv HT_ ?_|refine tk HT_ HW_ hHeld ?_));refine pv 6 49 57 95 HT_ ?_;refine tkm 5 48 (mkp 57 7) HT_ HW_ hHeld ?_;(iterate 10 (first|refine qv HT_ ?_|refine tk HT_ HW_ hHeld ?_));refine pv 18 61 57 393215 HT_ ?_;refine tkm 17 60 (mkp 57 19) HT_ HW_ hHeld ?_;(iterate 38 (first|refine qu HT_ ?_|refine qv HT_ ?_|refine tk HT_ HW_ hHeld ?_));refine done_ (done_of HT_.out (by kernel_rfl)) ?_;(try go_wp2);go_roundg k2
                  case measure=>have:=HJ1.out;have:=HK2.out;omega
                  case rel=>exact ⟨(wrap64 (x38_2+1)),(by first|rfl|(simp;done)|(simp [*];done)),H',⟨by have:=HJ1.out;have:=HK2.out;omega⟩,⟨kz BK123.out⟩,⟨by exact bw HB.out⟩⟩
              ·rw [if_neg c80] at H;have c80b0:(((rd_T32 l0_3 x38_2).f1).toList==([98]:List UInt8))=false:=beq_eq_false_iff_ne.mpr c80;have c80b1:(((rd_T32 l0_3 x38_2).f1).toList != ([98]:List UInt8))=true:=bne_iff_ne.mpr c80;obtain rfl:=Option.some.inj H;have p126:0≤(x38_2:Int):=da;have q126:x38_2<(l0_3.length:Int):=da;obtain ⟨ad126,e126,hx126_0,hx126_1,hx126_2,hx126_3⟩:=at_T32 HR0_3.out x38_2 p126 q126;cases e126;replace hx126_0:=lx (bw HB.out) hx126_0;replace hx126_1:=lx (bw HB.out) hx126_1;replace hx126_2:=lx (bw HB.out) hx126_2;replace hx126_3:=lx (bw HB.out) hx126_3;replace p126:=eq_true p126;replace q126:=eq_true q126;(try go_wp2_with (first|((with_reducible refine gx 4 rfl ?_);(try (refine gate_guard (by rfl) ?_;dsimp only));refine be (cs:= #[.int .i64 0, .string (⟨#[]⟩:ByteArray), .int .i64 0, .int .i64 0]) (t:=32) ?_;intro gb127 hg w116 hbox hb;have BK127:=am (hbox);have GW127:=gs hg (bw HB.out);have GE127:=gs hg (bw HB.out);replace HB:=hs HB hb;have NB123_127:=nl hg (kz BK123.out);have NB127_123:=nr hg (kz BK123.out);replace BK123:=bk BK123 hb;clear hb hbox hg;have hnb117:=NB127_123.out;have hnc117:=NB123_127.out;have hz118:=zf4 BK127.out)));generalize hW_:((((w116.setCell ⟨gb127,0,none⟩ (.int .i64 ((rd_T32 l0_3 x38_2).f0))).setCell ⟨gb127,1,none⟩ (.string ((rd_T32 l0_3 x38_2).f1))).setCell ⟨gb127,2,none⟩ (.int .i64 ((rd_T32 l0_3 x38_2).f2))).setCell ⟨gb127,3,none⟩ (.int .i64 ((rd_T32 l0_3 x38_2).f3)))=w119;have n0_:Aside0 (w119.heap[gb123]? =some (.cells #[.int .i64 a0_0, .slice A0_1 l0_1.length c0_1, .slice A0_2 l0_2.length c0_2, .slice (some ad126) l0_3.length c0_3] 26 (0,0))):=⟨by rw [←hW_];exact kp BK123.out⟩;have n1_:Aside0 (w119.heap[gb127]? =some (.cells #[.int .i64 ((rd_T32 l0_3 x38_2).f0), .string ((rd_T32 l0_3 x38_2).f1), .int .i64 ((rd_T32 l0_3 x38_2).f2), .int .i64 ((rd_T32 l0_3 x38_2).f3)] 32 (0,0))):=⟨by rw [←hW_];exact kp BK127.out⟩;have n2_:Aside0 (Below w.heap.size w w119):=⟨by rw [←hW_];exact bw HB.out⟩;(try clear BK123);(try clear BK127);(try clear HB);clear hW_;revert n0_ n1_ n2_;intro BK123 BK127 HB;replace BK123:=am (blk_drew BK123.out);replace BK127:=am (blk_drew BK127.out);replace HB:=am (below_drew1 HB.out);refine start_ (n:=57) (S:=fun w'=>w'.cell? ⟨gb127,0,none⟩=some (.int .i64 ((rd_T32 l0_3 x38_2).f0))∧w'.cell? ⟨gb127,1,none⟩=some (.string ((rd_T32 l0_3 x38_2).f1))∧w'.cell? ⟨gb127,2,none⟩=some (.int .i64 ((rd_T32 l0_3 x38_2).f2))∧w'.cell? ⟨gb127,3,none⟩=some (.int .i64 ((rd_T32 l0_3 x38_2).f3))∧w'.cell? ⟨gb123,0,none⟩=some (.int .i64 a0_0)∧w'.cell? ⟨gb123,1,none⟩=some (.slice A0_1 l0_1.length c0_1)∧w'.cell? ⟨gb123,2,none⟩=some (.slice A0_2 l0_2.length c0_2)∧w'.cell? ⟨gb123,3,none⟩=some (.slice (some ad126) l0_3.length c0_3)) (ds:=[]) (mkp 57 0) (by kernel_rfl) rfl rfl ⟨bl BK127.out 0,bl BK127.out 1,bl BK127.out 2,bl BK127.out 3,bl BK123.out 0,bl BK123.out 1,bl BK123.out 2,bl BK123.out 3⟩ (fun hHeld=> ?_);refine with_tabW impl_AutomatonValid.tab6 impl_AutomatonValid.bits6 (fun HT_ HW_=> ?_);generalize w119.drew=w120 at BK123 BK127 HB hHeld ⊢;(iterate 5 (first|refine qv HT_ ?_|refine tk HT_ HW_ hHeld ?_));refine pv 6 49 57 95 HT_ ?_;refine tkm 5 48 (mkp 57 7) HT_ HW_ hHeld ?_;(iterate 10 (first|refine qv HT_ ?_|refine tk HT_ HW_ hHeld ?_));refine pv 18 61 57 393215 HT_ ?_;refine tkm 17 60 (mkp 57 19) HT_ HW_ hHeld ?_;(iterate 38 (first|refine qu HT_ ?_|refine qv HT_ ?_|refine tk HT_ HW_ hHeld ?_));refine done_ (done_of HT_.out (by kernel_rfl)) ?_;(try go_wp2);go_ret;exact ⟨by first|rfl|(simp [errW_none,errW_some]<;> rfl)|(simp [*,errW_none,errW_some]<;> rfl),by exact bw HB.out⟩
        ·rw [if_neg c19] at H;exact absurd H (by simp)
       ·rw [if_neg c18] at H;exact absurd H (by simp)
      ·rw [if_neg c17] at H;have c17b0:decide (x38_2<(l0_3.length:Int))=false:=decide_eq_false c17;clear c17;obtain rfl:=Option.some.inj H;go_wp2;go_ret;exact ⟨by first|rfl|(simp [errW_none,errW_some]<;> rfl)|(simp [*,errW_none,errW_some]<;> rfl),by exact bw HB.out⟩

/-! ### slices_Clone_Step: function 39 -/
def slices_Clone_Step.f (l0:List S32):Option (List S32):=if l0.length≤1000 then some l0 else none
set_option maxHeartbeats 4000000 in
set_option maxRecDepth 100000 in
theorem slices_Clone_Step.calls (A0:Option Addr) (c0:Nat) (l0:List S32) (r:List S32) (w:World) (hr0:Kd.C k32 w A0 l0.length l0) (hc0:l0.length≤c0) (h:slices_Clone_Step.f l0=some r):
    Calls Try.prog 39 #[.slice A0 l0.length c0] w fun e w'=>∃v0_:Value,e= .returned (v0_)∧Kd.R k32 32 w' w.heap.size (fun _=>True) v0_ r∧Below w.heap.size w w':=by
  unfold slices_Clone_Step.f at h
  split at h
  · rename_i hl
    obtain rfl:=Option.some.inj h
    have hq:∀(w:World) (a:Option Addr) (n c n' c':Nat),(binOp .eql 24 (.slice a n c) (.slice none n' c')).run Try.prog w= .ok (.bool a.isNone) w:=fun w a n c n' c'=>Lib.run_eql_slice_nil w _ _ a n c n' c' Try.underlying24
    have HB:=am (Below.refl w.heap.size w)
    have HL:=am hl
    have HR:=am hr0
    clear h hl
    cases A0 with
    |none=>
      have e:l0=[]:=by
        cases l0 with
        |nil=>rfl
        |cons x xs=>
          obtain ⟨ad,e,_⟩:=hr0.2.2 (by simp)
          cases e
      subst e
      clear hr0 HR HL hc0
      go_enter Try.func39,Try.ntmps39
      go_wp2
      go_ret
      exact ⟨_,rfl,Kd.R_nil _ _ _ _ _,HB.out⟩
    |some ad=>
      clear hr0
      go_enter Try.func39,Try.ntmps39
      go_wp2_with (first|((with_reducible refine gx 5 rfl ?_);refine Kd.R_lit k32 _ 32 ?hg (N:=5) ?hd (xs:=([]:List S32)) (inner:=[]) (ok:=fun _=>True) (okp:=fun _=>True) ?hr ?hp (fun _ hk=>hk) trivial (Below.refl _ _) (Nat.le_refl _) (by simp) ?_;(case hd=>rfl);(case hg=>rfl);(case hr=>first|(go_simp;done)|(go_simp;rfl));(case hp=>exact (Reps.none _ _));intro v5 w5 ho hb hg_ hnew_;have HO:=am (Kd.R_lower ho (below_size (bw HB.out)));have HB:=hs HB hb;clear hg_ hnew_ hb ho)|((with_reducible refine gate_builtin (b:= .append) (xs:= #[.tmp 5, .tmp 6]) rfl ?_);at_builtin;refine Kd.R_append_rows k32 (w0:=w) w.heap.size rfl (.tmp 5) (.tmp 6) 24 32 (.agg #[(.int .i64 0),(.string ⟨#[]⟩),(.int .i64 0),(.int .i64 0)]) 40 rfl Try.underlying24 info32 rfl (by decide) (by omega) v5 ([]:List S32) l0 _ _ _ (fun _=>True) (fun _=>False) rfl rfl ?aO ?aR (fun _ _ h=>h) (fun _ h=>h.elim) ?aF ?aB ?aS ?aL ?_;(case aR=>exact cc (Kd.C_below HR.out HB.out));(case aB=>exact (bw HB.out));(case aF=>exact (fun _ _=>trivial));(case aO=>exact (rz HO.out));(case aS=>exact (below_size (bw HB.out)));(case aL=>have:=HL.out;simp only [List.length_nil];omega);intro v6 w6 ho hb hg hat;have HO2:=am ho;have HB2:=am hb;clear ho hb hg hat HO HB))
      go_ret
      exact ⟨_,rfl,HO2.out,HB2.out⟩
  · cases h


/-! ### slices_Clone_int_int: function 70 -/
def slices_Clone_int_int.f (l0:List Int):Option (List Int):=if l0.length≤1000 then some l0 else none
set_option maxHeartbeats 4000000 in
set_option maxRecDepth 100000 in
theorem slices_Clone_int_int.calls (A0:Option Addr) (c0:Nat) (l0:List Int) (r:List Int) (w:World) (hr0:Kd.C (Kd.int .i64) w A0 l0.length l0) (hc0:l0.length≤c0) (h:slices_Clone_int_int.f l0=some r):
    Calls Try.prog 70 #[.slice A0 l0.length c0] w fun e w'=>∃v0_:Value,e= .returned (v0_)∧Kd.R (Kd.int .i64) 3 w' w.heap.size (fun _=>True) v0_ r∧Below w.heap.size w w':=by
  unfold slices_Clone_int_int.f at h
  split at h
  · rename_i hl
    obtain rfl:=Option.some.inj h
    have hq:∀(w:World) (a:Option Addr) (n c n' c':Nat),(binOp .eql 23 (.slice a n c) (.slice none n' c')).run Try.prog w= .ok (.bool a.isNone) w:=fun w a n c n' c'=>Lib.run_eql_slice_nil w _ _ a n c n' c' Try.underlying23
    have HB:=am (Below.refl w.heap.size w)
    have HL:=am hl
    have HR:=am hr0
    clear h hl
    cases A0 with
    |none=>
      have e:l0=[]:=by
        cases l0 with
        |nil=>rfl
        |cons x xs=>
          obtain ⟨ad,e,_⟩:=hr0.2.2 (by simp)
          cases e
      subst e
      clear hr0 HR HL hc0
      go_enter Try.func70,Try.ntmps70
      go_wp2
      go_ret
      exact ⟨_,rfl,Kd.R_nil _ _ _ _ _,HB.out⟩
    |some ad=>
      clear hr0
      go_enter Try.func70,Try.ntmps70
      go_wp2_with (first|((with_reducible refine gx 5 rfl ?_);refine Kd.R_lit (Kd.int .i64) _ 3 ?hg (N:=5) ?hd (xs:=([]:List Int)) (inner:=[]) (ok:=fun _=>True) (okp:=fun _=>True) ?hr ?hp (fun _ hk=>hk) trivial (Below.refl _ _) (Nat.le_refl _) (by simp) ?_;(case hd=>rfl);(case hg=>rfl);(case hr=>first|(go_simp;done)|(go_simp;rfl));(case hp=>exact (Reps.none _ _));intro v5 w5 ho hb hg_ hnew_;have HO:=am (Kd.R_lower ho (below_size (bw HB.out)));have HB:=hs HB hb;clear hg_ hnew_ hb ho)|((with_reducible refine gate_builtin (b:= .append) (xs:= #[.tmp 5, .tmp 6]) rfl ?_);at_builtin;refine Kd.R_append_rows (Kd.int .i64) (w0:=w) w.heap.size rfl (.tmp 5) (.tmp 6) 23 3 (.int .i64 0) 8 rfl Try.underlying23 info3 rfl (by decide) (by omega) v5 ([]:List Int) l0 _ _ _ (fun _=>True) (fun _=>False) rfl rfl ?aO ?aR (fun _ _ h=>h) (fun _ h=>h.elim) ?aF ?aB ?aS ?aL ?_;(case aR=>exact cc (Kd.C_below HR.out HB.out));(case aB=>exact (bw HB.out));(case aF=>exact (fun _ _=>trivial));(case aO=>exact (rz HO.out));(case aS=>exact (below_size (bw HB.out)));(case aL=>have:=HL.out;simp only [List.length_nil];omega);intro v6 w6 ho hb hg hat;have HO2:=am ho;have HB2:=am hb;clear ho hb hg hat HO HB))
      go_ret
      exact ⟨_,rfl,HO2.out,HB2.out⟩
  · cases h


-- NOT PRINTED: function 109 (cmp_Less_int)

-- NOT PRINTED: function 103 (slices_insertionSortOrdered_int)

-- NOT PRINTED: function 126 (slices_siftDownOrdered_int)

-- NOT PRINTED: function 104 (slices_heapSortOrdered_int)

-- NOT PRINTED: function 112 (bits_Len32)

-- NOT PRINTED: function 113 (bits_Len64)

-- NOT PRINTED: function 97 (bits_Len)

-- NOT PRINTED: function 127 (slices_nextPowerOfTwo)

-- NOT PRINTED: function 128 (slices_xorshift_Next)

-- NOT PRINTED: function 105 (slices_breakPatternsOrdered_int)

-- NOT PRINTED: function 134 (slices_order2Ordered_int)

-- NOT PRINTED: function 130 (slices_medianOrdered_int)

-- NOT PRINTED: function 129 (slices_medianAdjacentOrdered_int)

-- NOT PRINTED: function 106 (slices_choosePivotOrdered_int)

-- NOT PRINTED: function 107 (slices_reverseRangeOrdered_int)

-- NOT PRINTED: function 108 (slices_partialInsertionSortOrdered_int)

-- NOT PRINTED: function 110 (slices_partitionEqualOrdered_int)

-- NOT PRINTED: function 111 (slices_partitionOrdered_int)

-- NOT PRINTED: function 96 (slices_pdqsortOrdered_int)

/-! ### slices_Sort_int_int: function 71 -/
theorem rowl_at {α:Type} {R:α→List Value→Prop} {enc:α→List Value} {k:Nat} (hR:∀x cs,R x cs→cs=enc x) {xs:List α} {inner:List Value} (h:Reps R k xs inner) (j:Nat) (hj:j<xs.length) (i:Nat) (hi:i<k):inner[j*k+i]? =(enc xs[j])[i]? :=by
  have h2:=hR _ _ (h.2 j xs[j] (List.getElem?_eq_getElem hj))
  rw [←h2,List.getElem?_take,if_pos hi,List.getElem?_drop]
theorem rowl_lt {j k i n:Nat} (hj:j<n) (hi:i<k):j*k+i<n*k:=by
  have:(j+1)*k≤n*k:=Nat.mul_le_mul_right _ hj
  rw [Nat.succ_mul] at this
  omega
theorem rowl_parts {α:Type} {d:Kd α} {e base g n cap:Nat} {P:Nat→Prop} {w:World} {xs:List α} (h:d.R e w base P (.slice (some ⟨g,0,none⟩) n cap) xs):
    ∃cur,P g∧base≤g∧n=xs.length∧n≤cap∧cap≤maxLen∧w.heap[g]? =some (.cells cur e (0,0))∧cur.size=cap*d.sz∧Reps (d.M w base (fun k=>P k∧some k≠some g)) d.sz xs (cur.toList.take (n*d.sz)):=by
  obtain ⟨hP,inner,ho,hr⟩:=h
  rcases ho.2 with ⟨he,_⟩|⟨g',cap',cur,he,hb,hh,hnc,hcm,hcs,ht⟩
  · cases he
  · injection he with h1 h2 h3
    injection h1 with h1
    injection h1 with h1
    subst h1 h2 h3
    exact ⟨cur,hP _ rfl,hb,rfl,hnc,hcm,hh,hcs,ht▸hr⟩
theorem rowl_cell {α:Type} {d:Kd α} {enc:α→List Value} {e base g n cap:Nat} {P:Nat→Prop} {w:World} {xs:List α} (h:d.R e w base P (.slice (some ⟨g,0,none⟩) n cap) xs) (hM:∀w base ok x cs,d.M w base ok x cs→cs=enc x) (j:Nat) (hj:j<xs.length) (i:Nat) (hi:i<d.sz):w.cell? ⟨g,j*d.sz+i,none⟩=(enc xs[j])[i]?∧w.frozen? ⟨g,j*d.sz+i,none⟩=false:=by
  obtain ⟨cur,_,_,hn,hnc,_,hh,hcs,hr⟩:=rowl_parts h
  have hlt:j*d.sz+i<n*d.sz:=rowl_lt (by omega) hi
  refine ⟨?_,by simp [World.frozen?,hh]⟩
  rw [←rowl_at (fun x cs=>hM _ _ _ x cs) hr j hj i hi,List.getElem?_take,if_pos hlt]
  simp [World.cell?,hh]
/-- Cells of the row's own block are laid anew: the row of what they hold now. -/
theorem rowl_put {α:Type} {d:Kd α} {enc:α→List Value} {e base g n cap:Nat} {P:Nat→Prop} {w:World} {xs:List α} (h:d.R e w base P (.slice (some ⟨g,0,none⟩) n cap) xs) (hmk:∀w base ok x,d.M w base ok x (enc x)) (hlen:∀x,(enc x).length=d.sz) (hs:0<d.sz) (xs':List α) (hl:xs'.length=xs.length) (m:Nat) (os:Array Obj) (G:Array Value→Array Value) (hG:∀c,(G c).size=c.size)
    (hv:∀(c:Array Value) (j:Nat) (hj:j<xs'.length) (i:Nat),i<d.sz→j*d.sz+i<c.size→(G c)[j*d.sz+i]? =(enc xs'[j])[i]?):
    d.R e (Sort.grow (Sort.mapBlock (Sort.ahead w m) g G) os) base P (.slice (some ⟨g,0,none⟩) n cap) xs'∧w.grownBy (Sort.grow (Sort.mapBlock (Sort.ahead w m) g G) os) (some g):=by
  obtain ⟨cur,hP,hb,hn,hnc,hcm,hh,hcs,hr⟩:=rowl_parts h
  have hg:g<w.heap.size:=(Array.getElem?_eq_some_iff.1 hh).1
  have hb':(Sort.grow (Sort.mapBlock (Sort.ahead w m) g G) os).heap[g]? =some (.cells (G cur) e (0,0)):=by
    show (((w.heap.modify g (Sort.onCells G))++os)[g]?)=_
    rw [Array.getElem?_append_left (by simpa using hg),Array.getElem?_modify,if_pos rfl,hh]
    rfl
  refine ⟨⟨fun k hk=> ?_,(G cur).toList.take (n*d.sz),⟨?_, .inr ⟨g,cap,G cur,by rw [hn,hl],hb,hb',by omega,hcm,by rw [hG,hcs],by rw [hl,←hn]⟩⟩,?_,fun j p hj=> ?_⟩,?_⟩
  · have:g=k:=by simpa [Value.ownBlock] using hk
    exact this▸hP
  · rw [List.length_take,Array.length_toList,hG,hcs,hl,←hn]
    exact Nat.min_eq_left (Nat.mul_le_mul_right _ hnc)
  · rw [List.length_take,Array.length_toList,hG,hcs,hl,←hn]
    exact Nat.min_eq_left (Nat.mul_le_mul_right _ hnc)
  · obtain ⟨hjl,rfl⟩:=List.getElem?_eq_some_iff.1 hj
    have e1:(((G cur).toList.take (n*d.sz)).drop (j*d.sz)).take d.sz=enc xs'[j]:=by
      apply List.ext_getElem?
      intro i
      rw [List.getElem?_take]
      split
      · rename_i hi
        have hlt:j*d.sz+i<n*d.sz:=rowl_lt (by omega) hi
        have hle:n*d.sz≤cap*d.sz:=Nat.mul_le_mul_right _ hnc
        rw [List.getElem?_drop,List.getElem?_take,if_pos hlt,Array.getElem?_toList,hv cur j hjl i hi (by omega)]
      · rename_i hi
        rw [List.getElem?_eq_none (by rw [hlen];omega)]
    rw [e1]
    exact hmk _ _ _ _
  · refine ⟨rfl,rfl,rfl,by simp [Sort.grow,Sort.mapBlock,Sort.ahead],fun k hk hne=> ?_⟩
    show (((w.heap.modify g (Sort.onCells G))++os)[k]?)=_
    rw [Array.getElem?_append_left (by simpa using hk),Array.getElem?_modify,if_neg (fun e=>hne (by rw [e]))]
def slices_Sort_int_int.f (l0:List Int):Option (List Int):=if l0.length≤1000 then some (l0.mergeSort fun x y=>decide (x≤y)) else none
theorem slices_Sort_int_int.calls (P0_:Nat→Prop) (u9000_:Value) (l0:List Int) (r:List Int) (w0 w:World) (hB:Below w0.heap.size w0 w) (ho0:Kd.R (Kd.int .i64) 3 w w0.heap.size P0_ u9000_ l0) (h:slices_Sort_int_int.f l0=some r):
    Calls Try.prog 71 #[u9000_] w fun e w'=>e= .returned (.tuple #[])∧Kd.R (Kd.int .i64) 3 w' w0.heap.size (fun k_=>(P0_ k_∨w.heap.size≤k_)) u9000_ r∧Below w0.heap.size w0 w'∧Kept w w' (fun k_=>P0_ k_):=by
  unfold slices_Sort_int_int.f at h
  split at h
  · rename_i hl
    obtain rfl:=Option.some.inj h
    obtain ⟨A,c,rfl⟩:=Kd.R_slice ho0
    cases A with
    |none=>
      have e:l0=[]:=by
        obtain ⟨_,hr⟩:=Kd.R_reads' ho0
        cases l0 with
        |nil=>rfl
        |cons x xs=>
          obtain ⟨ad,e,_⟩:=hr.2.2.2 (by simp)
          cases e
      subst e
      refine (Try.slices_Sort_int_none none c w).mono ?_
      rintro e w' ⟨rfl,rfl⟩
      rw [List.mergeSort_nil]
      exact ⟨rfl,Kd.R_mono ho0 (fun _ hk=> .inl hk),hB,Kept.refl _ _⟩
    |some ad=>
      obtain ⟨g,rfl⟩:∃g,ad=⟨g,0,none⟩:=by
        obtain ⟨_,inner,ho,_⟩:=ho0
        rcases ho.2 with ⟨he,_⟩|⟨g,cap,cur,he,_⟩
        · cases he
        · injection he with h1
          injection h1 with h1
          exact ⟨g,h1⟩
      obtain ⟨cur,hP,hbase,_,_,_,hh,_,_⟩:=rowl_parts ho0
      have hg:g<w.heap.size:=(Array.getElem?_eq_some_iff.1 hh).1
      have hH:Sort.Holds (Value.int .i64) w g 0 l0.toArray:=fun t ht=>by
        have ht':t<l0.length:=by simpa using ht
        have hc:=rowl_cell (enc:=fun x=>[Value.int .i64 x]) ho0 (fun _ _ _ _ _ h=>h) t ht' 0 (by decide)
        rw [show (Kd.int .i64).sz=1 from rfl,Nat.mul_one,Nat.add_zero] at hc
        rw [Nat.zero_add]
        refine ⟨?_,hc.2⟩
        rw [hc.1,getElem!_pos l0.toArray t ht]
        rfl
      refine (Try.slices_Sort_int g 0 c l0 w hH hg (by omega)).mono ?_
      rintro e w' ⟨rfl,m,os,rfl⟩
      generalize hq:(l0.mergeSort fun x y=>decide (x≤y))=q
      have hsz:q.length=l0.length:=by rw [←hq,List.length_mergeSort]
      obtain ⟨hR,hG⟩:=rowl_put (enc:=fun x=>[Value.int .i64 x]) ho0 (fun w base ok x=>rfl) (fun _=>rfl) (by decide) q hsz m os (Sort.putCells (Value.int .i64) 0 q.toArray) (fun c=>by simp [Sort.putCells]) (fun c j hj i hi hlt=>by
        have hi:i<1:=hi
        obtain rfl:i=0:=by omega
        have hlt:j*1+0<c.size:=hlt
        show (Sort.putCells (Value.int .i64) 0 q.toArray c)[j*1+0]? =_
        rw [Nat.mul_one,Nat.add_zero] at*
        simp only [Sort.putCells,Array.getElem?_mapIdx,Array.getElem?_eq_getElem hlt,Option.map_some]
        rw [if_pos ⟨Nat.zero_le _,by simpa using hj⟩,Nat.sub_zero,getElem!_pos q.toArray j (by simpa using hj)]
        rfl)
      exact ⟨rfl,Kd.R_mono hR (fun _ hk=> .inl hk),pw_below_grown hB (some g) hB.size hG (fun k hk=>by injection hk with hk;subst hk;exact hbase),Kept.of_grown hG (Kept.refl _ _) (fun k hk=>by injection hk with hk;subst hk;exact .inl hP)⟩
  · cases h


-- NOT PRINTED: function 114 (impl_Step_114)

-- NOT PRINTED: function 131 (impl_Step_131)

-- NOT PRINTED: function 115 (impl_Step_115)

-- NOT PRINTED: function 116 (impl_Step_116)

-- NOT PRINTED: function 135 (impl_Step_135)

-- NOT PRINTED: function 133 (impl_Step_133)

-- NOT PRINTED: function 132 (impl_Step_132)

-- NOT PRINTED: function 117 (impl_Step_117)

-- NOT PRINTED: function 118 (impl_Step_118)

-- NOT PRINTED: function 119 (impl_Step_119)

-- NOT PRINTED: function 120 (impl_Step_120)

-- NOT PRINTED: function 121 (impl_Step_121)

-- NOT PRINTED: function 98 (impl_Step_98)

-- NOT PRINTED: function 72 (impl_Step_72)

end Go.Proofs.Ytojfbgegankddaa.PGV
