-- Written by a program (wip/myprint.py): the machine side of one law: each function that it reaches, as a plain function, and the proof that a call comes to just that.
import Derived.Test.YtojfbgegankddaaPGUx0
import Derived.Test.YtojfbgegankddaaPGUx1
namespace Go.Proofs.Ytojfbgegankddaa.PGU
open Go.RowKit Go.Proofs.YtojfbgegankddaaW.PrintWords Go.Proofs.YtojfbgegankddaaW.PrintLast Go.Proofs.YtojfbgegankddaaW.PrintMore
attribute [local go_sem] max2_int min2_int max_two min_two max_three min_three max_four min_four   -- for this text's walks alone
set_option linter.unusedVariables false
set_option linter.unusedSimpArgs false
set_option maxHeartbeats 8000000
set_option maxRecDepth 100000

/-! ### cmp_Or_int: function 85 -/
def cmp_Or_int.l0:Nat→Int→List Int→Int→Int→Option (Int)
 |0,_,_,_,_=>none
 |k+1,x3,x6,x7,x8=>if x8<x7 then (if 0≤x8 then (if x8<(x6.length:Int) then (if (rd x6 x8)=x3 then (cmp_Or_int.l0 k x3 x6 x7 (wrap64 (x8+1))) else (some (rd x6 x8))) else (none)) else (none)) else (some x3)
def cmp_Or_int.f (k:Nat) (l0:List Int):Option (Int):=cmp_Or_int.l0 k 0 l0 (l0.length:Int) 0
theorem cmp_Or_int.mono_l:∀k,(∀y0 y1 y2 y3,LeO (cmp_Or_int.l0 k y0 y1 y2 y3) (cmp_Or_int.l0 (k+1) y0 y1 y2 y3))
 |0=>fun _ _ _ _ r h=>by simp [cmp_Or_int.l0] at h
 |k+1=>by
  have ih0:=cmp_Or_int.mono_l k
  ·intro y0 y1 y2 y3;unfold cmp_Or_int.l0;repeat' with_reducible first|exact ih0 _ _ _ _|exact LeO.refl _|exact LeO.none _|refine LeO.ite ?_ ?_|refine LeO.bind ?_ (fun _=> ?_)
theorem cmp_Or_int.mono:∀a0 k,LeO (cmp_Or_int.f k a0) (cmp_Or_int.f (k+1) a0):=by
 intro a0 k;have ih0:=cmp_Or_int.mono_l k;unfold cmp_Or_int.f;repeat' with_reducible first|exact ih0 _ _ _ _|exact LeO.refl _|exact LeO.none _|refine LeO.ite ?_ ?_|refine LeO.bind ?_ (fun _=> ?_)
theorem cmp_Or_int.calls (k:Nat) (A0:Option Addr) (c0:Nat) (l0:List Int) (r:Int) (w:World) (hr0:Kd.C (Kd.int .i64) w A0 l0.length l0) (hc0:l0.length≤c0) (h:cmp_Or_int.f k l0=some r):
  Calls Try.prog 85 #[.slice A0 l0.length c0] w fun e w'=>e= .returned (.int .i64 r)∧Drawn0 w w':=by
 have HR0:=am hr0;have HC0:=am hc0;clear hr0 hc0;have H:(cmp_Or_int.l0 k 0 l0 (l0.length:Int) 0)=some r:=h;clear h;have H':=am H;clear H;go_enter Try.func85,Try.ntmps85;go_wp2;go_loopg [8] k (fun kq v8 w'=>∃(x8_1:Int),v8= .int .i64 x8_1∧Aside0 (cmp_Or_int.l0 kq 0 l0 (l0.length:Int) x8_1=some r)∧Aside0 (kq≤k)∧Drawn0 w w')
 case atStart=>exact ⟨(0),(by first|rfl|(simp;done)|(simp [*];done)),H',⟨Nat.le_refl _⟩,by repeat (first|exact Drawn0.refl _|apply Drawn0.step)⟩
 case round=>
  clear H';obtain ⟨x8_1,rfl,HA,HK1,⟨m1,rfl⟩⟩:=hrel
  cases gk with
  |zero=>exact absurd HA.out (by simp [cmp_Or_int.l0])
  |succ k1=>
   have H:=HA.out;clear HA;simp only [cmp_Or_int.l0] at H;by_cases c2:x8_1<(l0.length:Int)
   ·rw [if_pos c2] at H;have c2b0:=decide_eq_true c2;clear c2;by_cases c3:0≤x8_1
    ·rw [if_pos c3] at H;have c3b0:=decide_eq_true c3;clear c3;by_cases c4:x8_1<(l0.length:Int)
     ·rw [if_pos c4] at H;have c4b0:=decide_eq_true c4;clear c4;by_cases c5:(rd l0 x8_1)=0
      ·rw [if_pos c5] at H;have c5b0:((rd l0 x8_1)==0)=true:=beq_iff_eq.mpr c5;have c5b1:((rd l0 x8_1) != 0)=false:=bne_eq_false_iff_eq.mpr c5;clear c5;have H':=am H;clear H;have p123:0≤(x8_1:Int):=da;have q123:x8_1<(l0.length:Int):=da;obtain ⟨ad123,e123,hx123_0⟩:=Kd.at_int HR0.out x8_1 p123 q123;cases e123;replace p123:=eq_true p123;replace q123:=eq_true q123;go_wp2;go_roundg k1
       case measure=>have:=HK1.out;omega
       case rel=>exact ⟨(wrap64 (x8_1+1)),(by first|rfl|(simp;done)|(simp [*];done)),H',⟨by have:=HK1.out;omega⟩,by repeat (first|exact Drawn0.refl _|apply Drawn0.step)⟩
      ·rw [if_neg c5] at H;have c5b0:((rd l0 x8_1)==0)=false:=beq_eq_false_iff_ne.mpr c5;have c5b1:((rd l0 x8_1) != 0)=true:=bne_iff_ne.mpr c5;obtain rfl:=Option.some.inj H;have p123:0≤(x8_1:Int):=da;have q123:x8_1<(l0.length:Int):=da;obtain ⟨ad123,e123,hx123_0⟩:=Kd.at_int HR0.out x8_1 p123 q123;cases e123;replace p123:=eq_true p123;replace q123:=eq_true q123;go_wp2;go_ret;exact ⟨by first|rfl|(simp;done)|(simp [*];done),by repeat (first|exact Drawn0.refl _|apply Drawn0.step)⟩
     ·rw [if_neg c4] at H;exact absurd H (by simp)
    ·rw [if_neg c3] at H;exact absurd H (by simp)
   ·rw [if_neg c2] at H;have c2b0:decide (x8_1<(l0.length:Int))=false:=decide_eq_false c2;clear c2;obtain rfl:=Option.some.inj H;go_wp2;go_ret;exact ⟨by first|rfl|(simp;done)|(simp [*];done),by repeat (first|exact Drawn0.refl _|apply Drawn0.step)⟩

/-! ### cmp_isNaN_int: function 100 -/
def cmp_isNaN_int.f (a0:Int):Option (Bool):=some (a0 != a0)
theorem cmp_isNaN_int.calls (a0:Int) (r:Bool) (w:World) (h:cmp_isNaN_int.f a0=some r):
  Calls Try.prog 100 #[.int .i64 a0] w fun e w'=>e= .returned (.bool r)∧Drawn0 w w':=by
 have H:(some (a0 != a0))=some r:=h;clear h;obtain rfl:=Option.some.inj H;go_enter Try.func100,Try.ntmps100;go_wp2;go_ret;exact ⟨by first|rfl|(simp;done)|(simp [*];done),by repeat (first|exact Drawn0.refl _|apply Drawn0.step)⟩

/-! ### cmp_Compare_int: function 86 -/
def cmp_Compare_int.f (a0:Int) (a1:Int):Option (Int):=(cmp_isNaN_int.f a0).bind fun t124=>((cmp_isNaN_int.f a1).bind fun t125=>(if t124=true then (if t125=true then (some 0) else (some (-1))) else (if t125=true then (some 1) else (if a0<a1 then (some (-1)) else (if a0>a1 then (some 1) else (some 0))))))
theorem cmp_Compare_int.calls (a0:Int) (a1:Int) (r:Int) (w:World) (h:cmp_Compare_int.f a0 a1=some r):
  Calls Try.prog 86 #[.int .i64 a0, .int .i64 a1] w fun e w'=>e= .returned (.int .i64 r)∧Drawn0 w w':=by
 have H:((cmp_isNaN_int.f a0).bind fun t124=>((cmp_isNaN_int.f a1).bind fun t125=>(if t124=true then (if t125=true then (some 0) else (some (-1))) else (if t125=true then (some 1) else (if a0<a1 then (some (-1)) else (if a0>a1 then (some 1) else (some 0)))))))=some r:=h;clear h;obtain ⟨t124,A3,H⟩:=bO H;(try dsimp only at H);obtain ⟨t125,A4,H⟩:=bO H;(try dsimp only at H);by_cases c5:t124=true
 ·subst c5
  have H1:(if t125=true then (some 0) else (some (-1)))=some r:=by rw [if_pos rfl] at H;exact H
  clear H;have H:=H1;clear H1;by_cases c6:t125=true
  ·subst c6
   have H1:(some 0)=some r:=by rw [if_pos rfl] at H;exact H
   clear H;have H:=H1;clear H1;obtain rfl:=Option.some.inj H;go_enter Try.func86,Try.ntmps86;go_wp2_with (first|((with_reducible refine gy 100 rfl ?_);refine gl Try.func100 #[.int .i64 a1] ?_;(with_reducible refine (cmp_isNaN_int.calls a1 true _ A4.out).mono ?_);rintro e w' ⟨rfl,⟨nd,rfl⟩⟩;refine ⟨_,rfl,?_⟩)|((with_reducible refine gy 100 rfl ?_);refine gl Try.func100 #[.int .i64 a0] ?_;(with_reducible refine (cmp_isNaN_int.calls a0 true _ A3.out).mono ?_);rintro e w' ⟨rfl,⟨nd,rfl⟩⟩;refine ⟨_,rfl,?_⟩));go_ret;exact ⟨by first|rfl|(simp;done)|(simp [*];done),by repeat (first|exact Drawn0.refl _|apply Drawn0.step)⟩
  ·replace c6:=Bool.eq_false_iff.mpr c6;subst c6
   have H1:(some (-1))=some r:=by rw [if_neg (show ¬(false=true) by decide)] at H;exact H
   clear H;have H:=H1;clear H1;obtain rfl:=Option.some.inj H;go_enter Try.func86,Try.ntmps86;go_wp2_with (first|((with_reducible refine gy 100 rfl ?_);refine gl Try.func100 #[.int .i64 a1] ?_;(with_reducible refine (cmp_isNaN_int.calls a1 false _ A4.out).mono ?_);rintro e w' ⟨rfl,⟨nd,rfl⟩⟩;refine ⟨_,rfl,?_⟩)|((with_reducible refine gy 100 rfl ?_);refine gl Try.func100 #[.int .i64 a0] ?_;(with_reducible refine (cmp_isNaN_int.calls a0 true _ A3.out).mono ?_);rintro e w' ⟨rfl,⟨nd,rfl⟩⟩;refine ⟨_,rfl,?_⟩));go_ret;exact ⟨by first|rfl|(simp;done)|(simp [*];done),by repeat (first|exact Drawn0.refl _|apply Drawn0.step)⟩
 ·replace c5:=Bool.eq_false_iff.mpr c5;subst c5
  have H1:(if t125=true then (some 1) else (if a0<a1 then (some (-1)) else (if a0>a1 then (some 1) else (some 0))))=some r:=by rw [if_neg (show ¬(false=true) by decide)] at H;exact H
  clear H;have H:=H1;clear H1;by_cases c7:t125=true
  ·subst c7
   have H1:(some 1)=some r:=by rw [if_pos rfl] at H;exact H
   clear H;have H:=H1;clear H1;obtain rfl:=Option.some.inj H;go_enter Try.func86,Try.ntmps86;go_wp2_with (first|((with_reducible refine gy 100 rfl ?_);refine gl Try.func100 #[.int .i64 a1] ?_;(with_reducible refine (cmp_isNaN_int.calls a1 true _ A4.out).mono ?_);rintro e w' ⟨rfl,⟨nd,rfl⟩⟩;refine ⟨_,rfl,?_⟩)|((with_reducible refine gy 100 rfl ?_);refine gl Try.func100 #[.int .i64 a0] ?_;(with_reducible refine (cmp_isNaN_int.calls a0 false _ A3.out).mono ?_);rintro e w' ⟨rfl,⟨nd,rfl⟩⟩;refine ⟨_,rfl,?_⟩));go_ret;exact ⟨by first|rfl|(simp;done)|(simp [*];done),by repeat (first|exact Drawn0.refl _|apply Drawn0.step)⟩
  ·replace c7:=Bool.eq_false_iff.mpr c7;subst c7
   have H1:(if a0<a1 then (some (-1)) else (if a0>a1 then (some 1) else (some 0)))=some r:=by rw [if_neg (show ¬(false=true) by decide)] at H;exact H
   clear H;have H:=H1;clear H1;by_cases c8:a0<a1
   ·rw [if_pos c8] at H;have c8b0:=decide_eq_true c8;clear c8;obtain rfl:=Option.some.inj H;go_enter Try.func86,Try.ntmps86;go_wp2_with (first|((with_reducible refine gy 100 rfl ?_);refine gl Try.func100 #[.int .i64 a1] ?_;(with_reducible refine (cmp_isNaN_int.calls a1 false _ A4.out).mono ?_);rintro e w' ⟨rfl,⟨nd,rfl⟩⟩;refine ⟨_,rfl,?_⟩)|((with_reducible refine gy 100 rfl ?_);refine gl Try.func100 #[.int .i64 a0] ?_;(with_reducible refine (cmp_isNaN_int.calls a0 false _ A3.out).mono ?_);rintro e w' ⟨rfl,⟨nd,rfl⟩⟩;refine ⟨_,rfl,?_⟩));go_ret;exact ⟨by first|rfl|(simp;done)|(simp [*];done),by repeat (first|exact Drawn0.refl _|apply Drawn0.step)⟩
   ·rw [if_neg c8] at H;have c8b0:=decide_eq_false c8;clear c8;by_cases c9:a0>a1
    ·rw [if_pos c9] at H;have c9b0:decide (a1<a0)=true:=decide_eq_true c9;clear c9;obtain rfl:=Option.some.inj H;go_enter Try.func86,Try.ntmps86;go_wp2_with (first|((with_reducible refine gy 100 rfl ?_);refine gl Try.func100 #[.int .i64 a1] ?_;(with_reducible refine (cmp_isNaN_int.calls a1 false _ A4.out).mono ?_);rintro e w' ⟨rfl,⟨nd,rfl⟩⟩;refine ⟨_,rfl,?_⟩)|((with_reducible refine gy 100 rfl ?_);refine gl Try.func100 #[.int .i64 a0] ?_;(with_reducible refine (cmp_isNaN_int.calls a0 false _ A3.out).mono ?_);rintro e w' ⟨rfl,⟨nd,rfl⟩⟩;refine ⟨_,rfl,?_⟩));go_ret;exact ⟨by first|rfl|(simp;done)|(simp [*];done),by repeat (first|exact Drawn0.refl _|apply Drawn0.step)⟩
    ·rw [if_neg c9] at H;have c9b0:decide (a1<a0)=false:=decide_eq_false c9;clear c9;obtain rfl:=Option.some.inj H;go_enter Try.func86,Try.ntmps86;go_wp2_with (first|((with_reducible refine gy 100 rfl ?_);refine gl Try.func100 #[.int .i64 a1] ?_;(with_reducible refine (cmp_isNaN_int.calls a1 false _ A4.out).mono ?_);rintro e w' ⟨rfl,⟨nd,rfl⟩⟩;refine ⟨_,rfl,?_⟩)|((with_reducible refine gy 100 rfl ?_);refine gl Try.func100 #[.int .i64 a0] ?_;(with_reducible refine (cmp_isNaN_int.calls a0 false _ A3.out).mono ?_);rintro e w' ⟨rfl,⟨nd,rfl⟩⟩;refine ⟨_,rfl,?_⟩));go_ret;exact ⟨by first|rfl|(simp;done)|(simp [*];done),by repeat (first|exact Drawn0.refl _|apply Drawn0.step)⟩

-- NOT PRINTED: function 122 (bytealg_abigen_runtime_cmpstring)

-- NOT PRINTED: function 101 (bytealg_CompareString)

/-! ### strings_Compare: function 87 -/
def strings_Compare.f (a0:ByteArray) (a1:ByteArray):Option (Int):=some (Lib.compareBytes a0.data.toList a1.data.toList)
set_option maxHeartbeats 4000000 in
theorem strings_Compare.inner (a b:ByteArray) (w:World):
    Calls Try.prog 101 #[.string a, .string b] w fun e w'=>e= .returned (.int .i64 (Lib.compareBytes a.data.toList b.data.toList))∧w'=w:=by
  go_enter Try.func101,Try.ntmps101
  go_wp2
  rw [run_callFunc_extern Try.func122 (by kernel_rfl) (by kernel_rfl) (by kernel_rfl) (e:=Extern.BytealgCompare.compare) (by kernel_rfl),Lib.run_compareString]
  simp only [Result.andThen]
  rw [Oper.upon_value]
  go_wp2
  go_ret
  exact ⟨rfl,rfl⟩
set_option maxHeartbeats 4000000 in
theorem strings_Compare.calls (a0:ByteArray) (a1:ByteArray) (r:Int) (w:World) (h:strings_Compare.f a0 a1=some r):
    Calls Try.prog 87 #[.string a0, .string a1] w fun e w'=>e= .returned (.int .i64 r)∧Drawn0 w w':=by
  obtain rfl:=Option.some.inj h
  go_enter Try.func87,Try.ntmps87
  go_wp2_with (go_at_call 101;refine (strings_Compare.inner _ _ _).mono ?_;rintro e w' ⟨rfl,rfl⟩)
  go_ret
  exact ⟨rfl,Drawn0.refl _⟩


/-! ### impl_stepOrder: function 61 -/
def impl_stepOrder.f (k:Nat) (a0_0:Int) (a0_1:ByteArray) (a0_2:Int) (a0_3:Int) (a1_0:Int) (a1_1:ByteArray) (a1_2:Int) (a1_3:Int):Option (Int):=(cmp_Compare_int.f a0_0 a1_0).bind fun t128=>((strings_Compare.f a0_1 a1_1).bind fun t129=>((cmp_Compare_int.f a0_2 a1_2).bind fun t130=>((cmp_Or_int.f k (([t128,t129,t130]:List Int))).bind fun t134=>(some t134))))
theorem impl_stepOrder.mono:∀a0 a1 a2 a3 a4 a5 a6 a7 k,LeO (impl_stepOrder.f k a0 a1 a2 a3 a4 a5 a6 a7) (impl_stepOrder.f (k+1) a0 a1 a2 a3 a4 a5 a6 a7):=by
 intro a0 a1 a2 a3 a4 a5 a6 a7 k;unfold impl_stepOrder.f;repeat' with_reducible first|exact cmp_Or_int.mono _ _|exact LeO.refl _|exact LeO.none _|refine LeO.ite ?_ ?_|refine LeO.bind ?_ (fun _=> ?_)
def impl_stepOrder.T1:Bool×List (List Nat×List Nat):=(true,[([],[]),([0],[0]),([],[]),([2],[2]),([1,3],[1,3]),([],[]),([5],[5]),([],[]),([7],[7]),([6,8,4],[6,8]),([],[]),([10],[10]),([],[]),([12],[12]),([11,13,9],[11,13]),([4,9,14],[4,9,14]),([15,14],[15]),([16,16,0,1,2,3,4,5,6,7,8,9,10,11,12,13,14,15,16],[16])])
def impl_stepOrder.B1:List Nat:=[0,1,0,4,15,0,32,0,128,511,0,1024,0,4096,16383,32767,65535,131071]
theorem impl_stepOrder.tab1:rtab .any (opsOf Try.f61 1)=impl_stepOrder.T1:=by kernel_rfl
theorem impl_stepOrder.bits1:waitsOk impl_stepOrder.T1.2 impl_stepOrder.B1=true:=by kernel_rfl
theorem impl_stepOrder.calls (k:Nat) (a0_0:Int) (a0_1:ByteArray) (a0_2:Int) (a0_3:Int) (a1_0:Int) (a1_1:ByteArray) (a1_2:Int) (a1_3:Int) (r:Int) (w:World) (h:impl_stepOrder.f k a0_0 a0_1 a0_2 a0_3 a1_0 a1_1 a1_2 a1_3=some r):
  Calls Try.prog 61 #[.agg #[.int .i64 a0_0, .string a0_1, .int .i64 a0_2, .int .i64 a0_3], .agg #[.int .i64 a1_0, .string a1_1, .int .i64 a1_2, .int .i64 a1_3]] w fun e w'=>e= .returned (.int .i64 r)∧Below w.heap.size w w':=by
 have hu32:=Try.underlying32;have HB:=am (Below.refl w.heap.size w);have H:((cmp_Compare_int.f a0_0 a1_0).bind fun t128=>((strings_Compare.f a0_1 a1_1).bind fun t129=>((cmp_Compare_int.f a0_2 a1_2).bind fun t130=>((cmp_Or_int.f k (([t128,t129,t130]:List Int))).bind fun t134=>(some t134)))))=some r:=h;clear h;obtain ⟨t128,A3,H⟩:=bO H;(try dsimp only at H);obtain ⟨t129,A4,H⟩:=bO H;(try dsimp only at H);obtain ⟨t130,A5,H⟩:=bO H;(try dsimp only at H);obtain ⟨y131,hy131⟩:∃y_:List Int,y_=(([t128,t129,t130]:List Int)):=⟨_,rfl⟩
 replace H:((cmp_Or_int.f k y131).bind fun t134=>(some t134))=some r:=yH hy131 H
 have Ny131:=am hy131;clear hy131;obtain ⟨t134,A6,H⟩:=bO H;(try dsimp only at H);obtain rfl:=Option.some.inj H;go_enter Try.func61,Try.ntmps61;(try go_wp2_with (first|((with_reducible refine gx 2 rfl ?_);refine be (cs:= #[.int .i64 a0_0, .string a0_1, .int .i64 a0_2, .int .i64 a0_3]) (t:=32) ?_;intro gb126 hg w7 hbox hb;have BK126:=am (hbox);have GW126:=gs hg (bz HB.out);have GE126:=gs hg (bz HB.out);replace HB:=hs HB hb;clear hb hbox hg)|((with_reducible refine gx 3 rfl ?_);refine be (cs:= #[.int .i64 a1_0, .string a1_1, .int .i64 a1_2, .int .i64 a1_3]) (t:=32) ?_;intro gb127 hg w8 hbox hb;have BK127:=am (hbox);have GW127:=gs hg (bw HB.out);have GE127:=gs hg (bw HB.out);replace HB:=hs HB hb;have NB126_127:=nl hg (kz BK126.out);have NB127_126:=nr hg (kz BK126.out);replace BK126:=bk BK126 hb;clear hb hbox hg)));replace BK126:=am (blk_drew BK126.out);replace BK127:=am (blk_drew BK127.out);replace HB:=am (below_drew1 HB.out);refine start_ (n:=18) (S:=fun w'=>w'.cell? ⟨gb126,0,none⟩=some (.int .i64 a0_0)∧w'.cell? ⟨gb126,1,none⟩=some (.string a0_1)∧w'.cell? ⟨gb126,2,none⟩=some (.int .i64 a0_2)∧w'.cell? ⟨gb126,3,none⟩=some (.int .i64 a0_3)∧w'.cell? ⟨gb127,0,none⟩=some (.int .i64 a1_0)∧w'.cell? ⟨gb127,1,none⟩=some (.string a1_1)∧w'.cell? ⟨gb127,2,none⟩=some (.int .i64 a1_2)∧w'.cell? ⟨gb127,3,none⟩=some (.int .i64 a1_3)) (ds:=[]) (mkp 18 0) (by kernel_rfl) rfl rfl (b4 BK126 (b4e BK127)) (fun hHeld=> ?_);refine with_tabW impl_stepOrder.tab1 impl_stepOrder.bits1 (fun HT_ HW_=> ?_);generalize w8.drew=w9 at BK126 BK127 HB hHeld ⊢;refine qv HT_ ?_;refine pv 2 7 18 5 HT_ ?_;refine pv 5 10 18 37 HT_ ?_;refine pv 7 12 18 165 HT_ ?_;refine pv 10 15 18 1189 HT_ ?_;refine pv 12 17 18 5285 HT_ ?_;refine tkm 1 6 (mk 18 5287) HT_ HW_ hHeld ?_;refine tkm 3 8 (mk 18 5295) HT_ HW_ hHeld ?_;refine tkm 6 11 (mk 18 5359) HT_ HW_ hHeld ?_;refine tkm 8 13 (mk 18 5615) HT_ HW_ hHeld ?_;refine tkm 11 16 (mk 18 7663) HT_ HW_ hHeld ?_;refine tkm 13 18 (mk 18 15855) HT_ HW_ hHeld ?_;refine on 4 (mk 18 15871) HT_ (fun K hK=> ?_);refine gr Try.func86 #[.int .i64 a0_0, .int .i64 a1_0] ?_
 with_reducible refine (cmp_Compare_int.calls a0_0 a1_0 t128 _ A3.out).mono ?_
 rintro e w' ⟨rfl,⟨nd,rfl⟩⟩;refine ⟨_,rfl,?_⟩;refine hK.out _ _ (b4 BK126 (b4e BK127)) (fun hHeld=> ?_);clear hK K;refine norm_ (a':= ?_) ?_ ?_;rotate_left
 ·show Act.put _ (some 9) _=_;simp only [Act.put,List.setIfInBounds_toArray,List.set_cons_zero,List.set_cons_succ,i64_w,i32_w];rfl
 refine on 9 (mkp 18 14) HT_ (fun K hK=> ?_);refine gr Try.func87 #[.string a0_1, .string a1_1] ?_
 with_reducible refine (strings_Compare.calls a0_1 a1_1 t129 _ A4.out).mono ?_
 rintro e w' ⟨rfl,⟨nd,rfl⟩⟩;refine ⟨_,rfl,?_⟩;refine hK.out _ _ (b4 BK126 (b4e BK127)) (fun hHeld=> ?_);clear hK K;refine norm_ (a':= ?_) ?_ ?_;rotate_left
 ·show Act.put _ (some 14) _=_;simp only [Act.put,List.setIfInBounds_toArray,List.set_cons_zero,List.set_cons_succ,i64_w,i32_w];rfl
 refine on 14 (mkp 18 15) HT_ (fun K hK=> ?_);refine gr Try.func86 #[.int .i64 a0_2, .int .i64 a1_2] ?_
 with_reducible refine (cmp_Compare_int.calls a0_2 a1_2 t130 _ A5.out).mono ?_
 rintro e w' ⟨rfl,⟨nd,rfl⟩⟩;refine ⟨_,rfl,?_⟩;refine hK.out _ _ (b4 BK126 (b4e BK127)) (fun hHeld=> ?_);clear hK K;refine norm_ (a':= ?_) ?_ ?_;rotate_left
 ·show Act.put _ (some 19) _=_;simp only [Act.put,List.setIfInBounds_toArray,List.set_cons_zero,List.set_cons_succ,i64_w,i32_w];rfl
 refine on 15 (mkp 18 16) HT_ (fun K hK=> ?_);refine Kd.R_lit_step (Kd.int .i64) _ 3 ?hg (N:=20) ?hd (xs:=([t128,t129,t130]:List Int)) (inner:=[.int .i64 t128, .int .i64 t129, .int .i64 t130]) (ok:=fun _=>True) (okp:=fun _=>True) ?hr ?hp (fun _ hk=>hk) trivial (Below.refl _ _) (Nat.le_refl _) (by simp) ?_;(case hd=>rfl);(case hg=>rfl);(case hr=>first|(go_simp;done)|(go_simp;rfl));(case hp=>exact (Reps.one (show Kd.M (Kd.int .i64) _ _ _ t128 [.int .i64 t128] from rfl) (Reps.one (show Kd.M (Kd.int .i64) _ _ _ t129 [.int .i64 t129] from rfl) (Reps.one (show Kd.M (Kd.int .i64) _ _ _ t130 [.int .i64 t130] from rfl) (Reps.none _ _)))));intro v132 w10 ho11 hb hg_ hnew_;clear hg_ hnew_;(first|rw [←Ny131.out] at ho11|(simp only [Int.reduceToNat] at ho11;rw [←Ny131.out] at ho11));have HO133:=am (Kd.R_lower ho11 (below_size (bw HB.out)));replace BK126:=bk BK126 hb;replace BK127:=bk BK127 hb;replace HB:=hs HB hb;clear hb ho11;obtain ⟨Ao12,co12,eo12⟩:=Kd.R_slice HO133.out;(first|subst eo12|(injection eo12 with f1_ f2_ f3_;have f4_:=f1_.symm;have f5_:=f3_.symm;clear f1_ f2_ f3_;subst f4_;subst f5_));refine hK.out _ _ (b4 BK126 (b4e BK127)) (fun hHeld=> ?_);clear hK K;refine norm_ (a':= ?_) ?_ ?_;rotate_left
 ·show Act.put _ (some 20) _=_;simp only [Act.put,List.setIfInBounds_toArray,List.set_cons_zero,List.set_cons_succ,i64_w,i32_w];rfl
 refine on 16 (mkp 18 17) HT_ (fun K hK=> ?_);refine gr Try.func85 #[.slice Ao12 y131.length co12] ?_
 with_reducible refine (cmp_Or_int.calls k _ _ y131 t134 _ ?_ ?_ A6.out).mono ?_
 exact kC HO133;exact kL HO133;rintro e w' ⟨rfl,⟨nd,rfl⟩⟩;refine ⟨_,rfl,?_⟩;refine hK.out _ _ (b4 BK126 (b4e BK127)) (fun hHeld=> ?_);clear hK K;refine norm_ (a':= ?_) ?_ ?_;rotate_left
 ·show Act.put _ (some 21) _=_;simp only [Act.put,List.setIfInBounds_toArray,List.set_cons_zero,List.set_cons_succ,i64_w,i32_w];rfl
 refine qv HT_ ?_;refine done_ (done_of HT_.out (by kernel_rfl)) ?_;(try go_wp2);go_ret;exact ⟨by first|rfl|(simp [errW_none,errW_some]<;> rfl)|(simp [*,errW_none,errW_some]<;> rfl),by exact bw HB.out⟩

/-! ### impl_AutomatonValid: function 30 -/
mutual
def impl_AutomatonValid.j0:Nat→Bool→Int→List Int→List Int→List (S32)→Option (Bool)
 |0,_,_,_,_,_=>none
 |k+1,x34,x136000,x136001,x136002,x136003=>if x34=true then (some false) else (impl_AutomatonValid.l0 k x136003 (x136003.length:Int) 0 x136000 x136001 x136002 x136003)
def impl_AutomatonValid.l0:Nat→List (S32)→Int→Int→Int→List Int→List Int→List (S32)→Option (Bool)
 |0,_,_,_,_,_,_,_=>none
 |k+1,x36,x37,x38,x136000,x136001,x136002,x136003=>if x38<x37 then (if 0≤x38 then (if x38<(x36.length:Int) then (if ((rd_T32 x36 x38).f0)<0 then (some false) else (if ((rd_T32 x36 x38).f0)≥x136000 then (some false) else (if ((rd_T32 x36 x38).f2)<0 then (some false) else (if ((rd_T32 x36 x38).f2)≥x136000 then (some false) else (if ((rd_T32 x36 x38).f1).toList=([97]:List UInt8) then (if ((rd_T32 x36 x38).f3)<0 then (some false) else (if ((rd_T32 x36 x38).f3)>3 then (some false) else (if x38>0 then (if 0≤(wrap64 (x38 - 1)) then (if (wrap64 (x38 - 1))<(x136003.length:Int) then ((impl_stepOrder.f k ((rd_T32 x136003 (wrap64 (x38 - 1))).f0) ((rd_T32 x136003 (wrap64 (x38 - 1))).f1) ((rd_T32 x136003 (wrap64 (x38 - 1))).f2) ((rd_T32 x136003 (wrap64 (x38 - 1))).f3) ((rd_T32 x36 x38).f0) ((rd_T32 x36 x38).f1) ((rd_T32 x36 x38).f2) ((rd_T32 x36 x38).f3)).bind fun t141=>(if t141≥0 then (some false) else (impl_AutomatonValid.l0 k x36 x37 (wrap64 (x38+1)) x136000 x136001 x136002 x136003))) else (none)) else (none)) else (impl_AutomatonValid.l0 k x36 x37 (wrap64 (x38+1)) x136000 x136001 x136002 x136003)))) else (if ((rd_T32 x36 x38).f1).toList=([98]:List UInt8) then (if ((rd_T32 x36 x38).f3)<0 then (some false) else (if ((rd_T32 x36 x38).f3)>3 then (some false) else (if x38>0 then (if 0≤(wrap64 (x38 - 1)) then (if (wrap64 (x38 - 1))<(x136003.length:Int) then ((impl_stepOrder.f k ((rd_T32 x136003 (wrap64 (x38 - 1))).f0) ((rd_T32 x136003 (wrap64 (x38 - 1))).f1) ((rd_T32 x136003 (wrap64 (x38 - 1))).f2) ((rd_T32 x136003 (wrap64 (x38 - 1))).f3) ((rd_T32 x36 x38).f0) ((rd_T32 x36 x38).f1) ((rd_T32 x36 x38).f2) ((rd_T32 x36 x38).f3)).bind fun t143=>(if t143≥0 then (some false) else (impl_AutomatonValid.l0 k x36 x37 (wrap64 (x38+1)) x136000 x136001 x136002 x136003))) else (none)) else (none)) else (impl_AutomatonValid.l0 k x36 x37 (wrap64 (x38+1)) x136000 x136001 x136002 x136003)))) else (some false))))))) else (none)) else (none)) else (some true)
end
def impl_AutomatonValid.f (k:Nat) (a0_0:Int) (l0_1:List Int) (l0_2:List Int) (l0_3:List (S32)):Option (Bool):=if a0_0<1 then (impl_AutomatonValid.j0 k true a0_0 l0_1 l0_2 l0_3) else (if a0_0>4 then (impl_AutomatonValid.j0 k true a0_0 l0_1 l0_2 l0_3) else (if (l0_3.length:Int)>24 then (impl_AutomatonValid.j0 k true a0_0 l0_1 l0_2 l0_3) else ((impl_statesOk.f k l0_1 a0_0).bind fun t136=>(if t136=true then ((impl_statesOk.f k l0_2 a0_0).bind fun t137=>(impl_AutomatonValid.j0 k (!t137) a0_0 l0_1 l0_2 l0_3)) else (impl_AutomatonValid.j0 k true a0_0 l0_1 l0_2 l0_3)))))
theorem impl_AutomatonValid.mono_l:∀k,(∀y0 y1 y2 y3 y4,LeO (impl_AutomatonValid.j0 k y0 y1 y2 y3 y4) (impl_AutomatonValid.j0 (k+1) y0 y1 y2 y3 y4))∧(∀y0 y1 y2 y3 y4 y5 y6,LeO (impl_AutomatonValid.l0 k y0 y1 y2 y3 y4 y5 y6) (impl_AutomatonValid.l0 (k+1) y0 y1 y2 y3 y4 y5 y6))
 |0=>⟨fun _ _ _ _ _ r h=>by simp [impl_AutomatonValid.j0] at h,fun _ _ _ _ _ _ _ r h=>by simp [impl_AutomatonValid.l0] at h⟩
 |k+1=>by
  obtain ⟨ih0,ih1⟩:=impl_AutomatonValid.mono_l k;refine ⟨?_,?_⟩
  ·intro y0 y1 y2 y3 y4;unfold impl_AutomatonValid.j0;repeat' with_reducible first|exact ih0 _ _ _ _ _|exact ih1 _ _ _ _ _ _ _|exact impl_statesOk.mono _ _ _|exact impl_stepOrder.mono _ _ _ _ _ _ _ _ _|exact LeO.refl _|exact LeO.none _|refine LeO.ite ?_ ?_|refine LeO.bind ?_ (fun _=> ?_)
  ·intro y0 y1 y2 y3 y4 y5 y6;unfold impl_AutomatonValid.l0;repeat' with_reducible first|exact ih0 _ _ _ _ _|exact ih1 _ _ _ _ _ _ _|exact impl_statesOk.mono _ _ _|exact impl_stepOrder.mono _ _ _ _ _ _ _ _ _|exact LeO.refl _|exact LeO.none _|refine LeO.ite ?_ ?_|refine LeO.bind ?_ (fun _=> ?_)
theorem impl_AutomatonValid.mono:∀a0 a1 a2 a3 k,LeO (impl_AutomatonValid.f k a0 a1 a2 a3) (impl_AutomatonValid.f (k+1) a0 a1 a2 a3):=by
 intro a0 a1 a2 a3 k;obtain ⟨ih0,ih1⟩:=impl_AutomatonValid.mono_l k;unfold impl_AutomatonValid.f;repeat' with_reducible first|exact ih0 _ _ _ _ _|exact ih1 _ _ _ _ _ _ _|exact impl_statesOk.mono _ _ _|exact impl_stepOrder.mono _ _ _ _ _ _ _ _ _|exact LeO.refl _|exact LeO.none _|refine LeO.ite ?_ ?_|refine LeO.bind ?_ (fun _=> ?_)
def impl_AutomatonValid.T6:Bool×List (List Nat×List Nat):=(true,[([],[]),([0],[0]),([1],[1]),([2],[2]),([3],[3]),([4,3],[3,4]),([3],[3]),([6,3],[3,6]),([5,7,3],[3,5,7]),([3,8],[3,8]),([9,3],[9]),([10],[10]),([11,10],[10,11]),([12,10],[10,12]),([10,13],[10,13]),([14,10],[14]),([15],[15]),([16,15],[15,16]),([15],[15]),([18,15],[15,18]),([17,19,15],[15,17,19]),([15,20],[15,20]),([21,15],[21]),([22],[22]),([23,22],[22,23]),([24,22],[22,24]),([25,22,22],[22,25]),([26],[26]),([27,26],[26,27]),([28,26],[26,28]),([26,29,22],[22,26,29]),([22,30],[22,30]),([31,26],[31]),([32],[32]),([33,32],[32,33]),([34,32],[32,34]),([32,35],[32,35]),([36,32],[36]),([37],[37]),([38,37],[37,38]),([39,37],[37,39]),([37,40],[37,40]),([41,37],[41]),([42],[42]),([43,42],[42,43]),([44,42,42],[42,44]),([45],[45]),([46,45],[45,46]),([45],[45]),([48,45],[45,48]),([47,49,45],[45,47,49]),([50,45],[45,50]),([45],[45]),([51,52,45,45],[45,51,52]),([53,45],[45,53]),([45,54,42],[42,45,54]),([42,55],[42,55])])
def impl_AutomatonValid.B6:List Nat:=[0,1,3,7,15,31,15,79,255,511,1023,2047,4095,8191,16383,32767,65535,131071,65535,327679,1048575,2097151,4194303,8388607,16777215,33554431,67108863,134217727,268435455,536870911,1073741823,2147483647,4294967295,8589934591,17179869183,34359738367,68719476735,137438953471,274877906943,549755813887,1099511627775,2199023255551,4398046511103,8796093022207,17592186044415,35184372088831,70368744177663,140737488355327,70368744177663,351843720888319,1125899906842623,2251799813685247,70368744177663,9007199254740991,18014398509481983,36028797018963967,72057594037927935]
theorem impl_AutomatonValid.tab6:rtab .any (opsOf Try.f30 6)=impl_AutomatonValid.T6:=by kernel_rfl
theorem impl_AutomatonValid.bits6:waitsOk impl_AutomatonValid.T6.2 impl_AutomatonValid.B6=true:=by kernel_rfl
theorem impl_AutomatonValid.calls (k:Nat) (a0_0:Int) (A0_1:Option Addr) (c0_1:Nat) (l0_1:List Int) (A0_2:Option Addr) (c0_2:Nat) (l0_2:List Int) (A0_3:Option Addr) (c0_3:Nat) (l0_3:List (S32)) (r:Bool) (w:World) (hr0_1:Kd.C (Kd.int .i64) w A0_1 l0_1.length l0_1) (hc0_1:l0_1.length≤c0_1) (hr0_2:Kd.C (Kd.int .i64) w A0_2 l0_2.length l0_2) (hc0_2:l0_2.length≤c0_2) (hr0_3:Kd.C k32 w A0_3 l0_3.length l0_3) (hc0_3:l0_3.length≤c0_3) (h:impl_AutomatonValid.f k a0_0 l0_1 l0_2 l0_3=some r):
  Calls Try.prog 30 #[.agg #[.int .i64 a0_0, .slice A0_1 l0_1.length c0_1, .slice A0_2 l0_2.length c0_2, .slice A0_3 l0_3.length c0_3]] w fun e w'=>e= .returned (.bool r)∧Below w.heap.size w w':=by
 have hu26:=Try.underlying26;have hu32:=Try.underlying32;have HR0_1:=am hr0_1;have HC0_1:=am hc0_1;clear hr0_1 hc0_1;have HR0_2:=am hr0_2;have HC0_2:=am hc0_2;clear hr0_2 hc0_2;have HR0_3:=am hr0_3;have HC0_3:=am hc0_3;clear hr0_3 hc0_3;have HB:=am (Below.refl w.heap.size w);have H:(if a0_0<1 then (impl_AutomatonValid.j0 k true a0_0 l0_1 l0_2 l0_3) else (if a0_0>4 then (impl_AutomatonValid.j0 k true a0_0 l0_1 l0_2 l0_3) else (if (l0_3.length:Int)>24 then (impl_AutomatonValid.j0 k true a0_0 l0_1 l0_2 l0_3) else ((impl_statesOk.f k l0_1 a0_0).bind fun t136=>(if t136=true then ((impl_statesOk.f k l0_2 a0_0).bind fun t137=>(impl_AutomatonValid.j0 k (!t137) a0_0 l0_1 l0_2 l0_3)) else (impl_AutomatonValid.j0 k true a0_0 l0_1 l0_2 l0_3))))))=some r:=h;clear h;have HC2:=am H;clear H;go_enter Try.func30,Try.ntmps30;go_upto_region 1 with (first|((with_reducible refine gx 1 rfl ?_);(try (refine gate_guard (by rfl) ?_;dsimp only));refine be (cs:= #[.int .i64 a0_0, .slice A0_1 l0_1.length c0_1, .slice A0_2 l0_2.length c0_2, .slice A0_3 l0_3.length c0_3]) (t:=26) ?_;intro gb135 hg w3 hbox hb;have BK135:=am (hbox);have GW135:=gs hg (bz HB.out);have GE135:=gs hg (bz HB.out);replace HB:=hs HB hb;clear hb hbox hg));(try simp only [Act.put,List.setIfInBounds_toArray,List.set_cons_zero,List.set_cons_succ]);go_cut [34] (fun v34 wc=>∃(kq:Nat) (x34_1:Bool),v34= .bool x34_1∧Aside0 (impl_AutomatonValid.j0 kq x34_1 a0_0 l0_1 l0_2 l0_3=some r)∧Aside0 (kq≤k)∧Aside0 (wc.heap[gb135]? =some (.cells #[.int .i64 a0_0,(.slice A0_1 l0_1.length c0_1),(.slice A0_2 l0_2.length c0_2),(.slice A0_3 l0_3.length c0_3)] 26 (0,0)))∧Aside0 (Below w.heap.size w wc))
 case first=>
  have H:=HC2.out;clear HC2;by_cases c4:a0_0<1
  ·rw [if_pos c4] at H;have c4b0:=decide_eq_true c4;clear c4;(first|rw [c4b0]|(simp only [i64_w,i32_w];rw [c4b0])|skip);have H':=am H;clear H;have hz5:=zf4 BK135.out;go_wp2;go_meet
   case rel=>exact ⟨_,(true),(by first|rfl|(simp;done)|(simp [*];done)),H',⟨by first|omega|exact Nat.le_refl _⟩,⟨kz BK135.out⟩,⟨by exact bw HB.out⟩⟩
  ·rw [if_neg c4] at H;have c4b0:=decide_eq_false c4;clear c4;(first|rw [c4b0]|(simp only [i64_w,i32_w];rw [c4b0])|skip);by_cases c6:a0_0>4
   ·rw [if_pos c6] at H;have c6b0:decide (4<a0_0)=true:=decide_eq_true c6;clear c6;have H':=am H;clear H;have hz7:=zf4 BK135.out;go_wp2;go_meet
    case rel=>exact ⟨_,(true),(by first|rfl|(simp;done)|(simp [*];done)),H',⟨by first|omega|exact Nat.le_refl _⟩,⟨kz BK135.out⟩,⟨by exact bw HB.out⟩⟩
   ·rw [if_neg c6] at H;have c6b0:decide (4<a0_0)=false:=decide_eq_false c6;clear c6;by_cases c8:(l0_3.length:Int)>24
    ·rw [if_pos c8] at H;have c8b0:decide (24<(l0_3.length:Int))=true:=decide_eq_true c8;have c8b1:decide (24<l0_3.length)=true:=decide_eq_true (by omega);clear c8;have H':=am H;clear H;have hz9:=zf4 BK135.out;go_wp2;go_meet
     case rel=>exact ⟨_,(true),(by first|rfl|(simp;done)|(simp [*];done)),H',⟨by first|omega|exact Nat.le_refl _⟩,⟨kz BK135.out⟩,⟨by exact bw HB.out⟩⟩
    ·rw [if_neg c8] at H;have c8b0:decide (24<(l0_3.length:Int))=false:=decide_eq_false c8;have c8b1:decide (24<l0_3.length)=false:=decide_eq_false (by omega);clear c8;obtain ⟨t136,A10,H⟩:=bO H;(try dsimp only at H);by_cases c11:t136=true
     ·subst c11
      have H1:((impl_statesOk.f k l0_2 a0_0).bind fun t137=>(impl_AutomatonValid.j0 k (!t137) a0_0 l0_1 l0_2 l0_3))=some r:=by rw [if_pos rfl] at H;exact H
      clear H;have H:=H1;clear H1;obtain ⟨t137,A12,H⟩:=bO H;(try dsimp only at H);have H':=am H;clear H;have hz13:=zf4 BK135.out;go_wp2_with (first|(go_at_call 60;(with_reducible refine (impl_statesOk.calls k _ _ l0_1 a0_0 true _ ?_ ?_ A10.out).mono ?_);exact cc (Kd.C_below HR0_1.out HB.out);exact HC0_1.out;rintro e w' ⟨rfl,⟨nd,rfl⟩⟩)|(go_at_call 60;(with_reducible refine (impl_statesOk.calls k _ _ l0_2 a0_0 t137 _ ?_ ?_ A12.out).mono ?_);exact cc (Kd.C_below HR0_2.out (bw HB.out));exact HC0_2.out;rintro e w' ⟨rfl,⟨nd,rfl⟩⟩));go_meet
      case rel=>exact ⟨_,(!t137),(by first|rfl|(simp;done)|(simp [*];done)),H',⟨by first|omega|exact Nat.le_refl _⟩,⟨kz BK135.out⟩,⟨by exact bw HB.out⟩⟩
     ·replace c11:=Bool.eq_false_iff.mpr c11;subst c11
      have H1:(impl_AutomatonValid.j0 k true a0_0 l0_1 l0_2 l0_3)=some r:=by rw [if_neg (show ¬(false=true) by decide)] at H;exact H
      clear H;have H:=H1;clear H1;have H':=am H;clear H;have hz14:=zf4 BK135.out;go_wp2_with (first|(go_at_call 60;(with_reducible refine (impl_statesOk.calls k _ _ l0_1 a0_0 false _ ?_ ?_ A10.out).mono ?_);exact cc (Kd.C_below HR0_1.out HB.out);exact HC0_1.out;rintro e w' ⟨rfl,⟨nd,rfl⟩⟩));go_meet
      case rel=>exact ⟨_,(true),(by first|rfl|(simp;done)|(simp [*];done)),H',⟨by first|omega|exact Nat.le_refl _⟩,⟨kz BK135.out⟩,⟨by exact bw HB.out⟩⟩
 case rest=>
  clear HC2;(try clear c1);(try clear p2);(try clear c3);(try clear c4);(try clear c4b0);(try clear c6);(try clear c6b0);(try clear c8);(try clear c8b0);(try clear c8b1);(try clear c11);obtain ⟨kq,x34_1,rfl,HA,HJ1,BK135,HB⟩:=hcut
  cases kq with
  |zero=>exact absurd HA.out (by simp [impl_AutomatonValid.j0])
  |succ kj1=>
   have H:=HA.out;clear HA;simp only [impl_AutomatonValid.j0] at H;by_cases c15:x34_1=true
   ·subst c15
    have H1:(some false)=some r:=by rw [if_pos rfl] at H;exact H
    clear H;have H:=H1;clear H1;obtain rfl:=Option.some.inj H;go_wp2;go_ret;exact ⟨by first|rfl|(simp [errW_none,errW_some]<;> rfl)|(simp [*,errW_none,errW_some]<;> rfl),by exact bw HB.out⟩
   ·replace c15:=Bool.eq_false_iff.mpr c15;subst c15
    have H1:(impl_AutomatonValid.l0 kj1 l0_3 (l0_3.length:Int) 0 a0_0 l0_1 l0_2 l0_3)=some r:=by rw [if_neg (show ¬(false=true) by decide)] at H;exact H
    clear H;have H:=H1;clear H1;have H':=am H;clear H;have hz16:=zf4 BK135.out;go_wp2;go_loopg [38] kj1 (fun kq v38 w'=>∃(x38_2:Int),v38= .int .i64 x38_2∧Aside0 (impl_AutomatonValid.l0 kq l0_3 (l0_3.length:Int) x38_2 a0_0 l0_1 l0_2 l0_3=some r)∧Aside0 (kq≤kj1)∧Aside0 (w'.heap[gb135]? =some (.cells #[.int .i64 a0_0,(.slice A0_1 l0_1.length c0_1),(.slice A0_2 l0_2.length c0_2),(.slice A0_3 l0_3.length c0_3)] 26 (0,0)))∧Aside0 (Below w.heap.size w w'))
    case atStart=>exact ⟨(0),(by first|rfl|(simp;done)|(simp [*];done)),H',⟨Nat.le_refl _⟩,⟨kz BK135.out⟩,⟨by exact bw HB.out⟩⟩
    case round=>
     clear H';(try clear c1);(try clear p2);(try clear c3);(try clear c4);(try clear c4b0);(try clear c6);(try clear c6b0);(try clear c8);(try clear c8b0);(try clear c8b1);(try clear c11);(try clear c15);(try clear p2);obtain ⟨x38_2,rfl,HA,HK2,BK135,HB⟩:=hrel
     cases gk with
     |zero=>exact absurd HA.out (by simp [impl_AutomatonValid.l0])
     |succ k2=>
      have H:=HA.out;clear HA;simp only [impl_AutomatonValid.l0] at H;by_cases c17:x38_2<(l0_3.length:Int)
      ·rw [if_pos c17] at H;have c17b0:=decide_eq_true c17;clear c17;by_cases c18:0≤x38_2
       ·rw [if_pos c18] at H;have c18b0:=decide_eq_true c18;clear c18;by_cases c19:x38_2<(l0_3.length:Int)
        ·rw [if_pos c19] at H;have c19b0:=decide_eq_true c19;clear c19;by_cases c20:((rd_T32 l0_3 x38_2).f0)<0
         ·rw [if_pos c20] at H;have c20b0:=decide_eq_true c20;clear c20;obtain rfl:=Option.some.inj H;have p138:0≤(x38_2:Int):=da;have q138:x38_2<(l0_3.length:Int):=da;obtain ⟨ad138,e138,hx138_0,hx138_1,hx138_2,hx138_3⟩:=at_T32 HR0_3.out x38_2 p138 q138;cases e138;replace hx138_0:=lx (bw HB.out) hx138_0;replace hx138_1:=lx (bw HB.out) hx138_1;replace hx138_2:=lx (bw HB.out) hx138_2;replace hx138_3:=lx (bw HB.out) hx138_3;replace p138:=eq_true p138;replace q138:=eq_true q138;(try go_wp2_with (first|((with_reducible refine gx 4 rfl ?_);(try (refine gate_guard (by rfl) ?_;dsimp only));refine be (cs:= #[.int .i64 0, .string (⟨#[]⟩:ByteArray), .int .i64 0, .int .i64 0]) (t:=32) ?_;intro gb139 hg w21 hbox hb;have BK139:=am (hbox);have GW139:=gs hg (bw HB.out);have GE139:=gs hg (bw HB.out);replace HB:=hs HB hb;have NB135_139:=nl hg (kz BK135.out);have NB139_135:=nr hg (kz BK135.out);replace BK135:=bk BK135 hb;clear hb hbox hg;have hnb22:=NB139_135.out;have hnc22:=NB135_139.out;have hz23:=zf4 BK139.out)));generalize hW_:((((w21.setCell ⟨gb139,0,none⟩ (.int .i64 ((rd_T32 l0_3 x38_2).f0))).setCell ⟨gb139,1,none⟩ (.string ((rd_T32 l0_3 x38_2).f1))).setCell ⟨gb139,2,none⟩ (.int .i64 ((rd_T32 l0_3 x38_2).f2))).setCell ⟨gb139,3,none⟩ (.int .i64 ((rd_T32 l0_3 x38_2).f3)))=w24;have n0_:Aside0 (w24.heap[gb135]? =some (.cells #[.int .i64 a0_0, .slice A0_1 l0_1.length c0_1, .slice A0_2 l0_2.length c0_2, .slice (some ad138) l0_3.length c0_3] 26 (0,0))):=⟨by rw [←hW_];exact kp BK135.out⟩;have n1_:Aside0 (w24.heap[gb139]? =some (.cells #[.int .i64 ((rd_T32 l0_3 x38_2).f0), .string ((rd_T32 l0_3 x38_2).f1), .int .i64 ((rd_T32 l0_3 x38_2).f2), .int .i64 ((rd_T32 l0_3 x38_2).f3)] 32 (0,0))):=⟨by rw [←hW_];exact kp BK139.out⟩;have n2_:Aside0 (Below w.heap.size w w24):=⟨by rw [←hW_];exact bw HB.out⟩;(try clear BK135);(try clear BK139);(try clear HB);clear hW_;revert n0_ n1_ n2_;intro BK135 BK139 HB;replace BK135:=am (blk_drew BK135.out);replace BK139:=am (blk_drew BK139.out);replace HB:=am (below_drew1 HB.out);refine start_ (n:=57) (S:=fun w'=>w'.cell? ⟨gb139,0,none⟩=some (.int .i64 ((rd_T32 l0_3 x38_2).f0))∧w'.cell? ⟨gb139,1,none⟩=some (.string ((rd_T32 l0_3 x38_2).f1))∧w'.cell? ⟨gb139,2,none⟩=some (.int .i64 ((rd_T32 l0_3 x38_2).f2))∧w'.cell? ⟨gb139,3,none⟩=some (.int .i64 ((rd_T32 l0_3 x38_2).f3))) (ds:=[]) (mkp 57 0) (by kernel_rfl) rfl rfl (b4e BK139) (fun hHeld=> ?_);refine with_tabW impl_AutomatonValid.tab6 impl_AutomatonValid.bits6 (fun HT_ HW_=> ?_);generalize w24.drew=w25 at BK135 BK139 HB hHeld ⊢;(iterate 57 (first|refine qu HT_ ?_|refine qv HT_ ?_|refine tk HT_ HW_ hHeld ?_));refine done_ (done_of HT_.out (by kernel_rfl)) ?_;(try go_wp2);go_ret;exact ⟨by first|rfl|(simp [errW_none,errW_some]<;> rfl)|(simp [*,errW_none,errW_some]<;> rfl),by exact bw HB.out⟩
         ·rw [if_neg c20] at H;have c20b0:=decide_eq_false c20;clear c20;by_cases c26:((rd_T32 l0_3 x38_2).f0)≥a0_0
          ·rw [if_pos c26] at H;have c26b0:decide (a0_0≤((rd_T32 l0_3 x38_2).f0))=true:=decide_eq_true c26;clear c26;obtain rfl:=Option.some.inj H;have p138:0≤(x38_2:Int):=da;have q138:x38_2<(l0_3.length:Int):=da;obtain ⟨ad138,e138,hx138_0,hx138_1,hx138_2,hx138_3⟩:=at_T32 HR0_3.out x38_2 p138 q138;cases e138;replace hx138_0:=lx (bw HB.out) hx138_0;replace hx138_1:=lx (bw HB.out) hx138_1;replace hx138_2:=lx (bw HB.out) hx138_2;replace hx138_3:=lx (bw HB.out) hx138_3;replace p138:=eq_true p138;replace q138:=eq_true q138;(try go_wp2_with (first|((with_reducible refine gx 4 rfl ?_);(try (refine gate_guard (by rfl) ?_;dsimp only));refine be (cs:= #[.int .i64 0, .string (⟨#[]⟩:ByteArray), .int .i64 0, .int .i64 0]) (t:=32) ?_;intro gb139 hg w27 hbox hb;have BK139:=am (hbox);have GW139:=gs hg (bw HB.out);have GE139:=gs hg (bw HB.out);replace HB:=hs HB hb;have NB135_139:=nl hg (kz BK135.out);have NB139_135:=nr hg (kz BK135.out);replace BK135:=bk BK135 hb;clear hb hbox hg;have hnb28:=NB139_135.out;have hnc28:=NB135_139.out;have hz29:=zf4 BK139.out)));generalize hW_:((((w27.setCell ⟨gb139,0,none⟩ (.int .i64 ((rd_T32 l0_3 x38_2).f0))).setCell ⟨gb139,1,none⟩ (.string ((rd_T32 l0_3 x38_2).f1))).setCell ⟨gb139,2,none⟩ (.int .i64 ((rd_T32 l0_3 x38_2).f2))).setCell ⟨gb139,3,none⟩ (.int .i64 ((rd_T32 l0_3 x38_2).f3)))=w30;have n0_:Aside0 (w30.heap[gb135]? =some (.cells #[.int .i64 a0_0, .slice A0_1 l0_1.length c0_1, .slice A0_2 l0_2.length c0_2, .slice (some ad138) l0_3.length c0_3] 26 (0,0))):=⟨by rw [←hW_];exact kp BK135.out⟩;have n1_:Aside0 (w30.heap[gb139]? =some (.cells #[.int .i64 ((rd_T32 l0_3 x38_2).f0), .string ((rd_T32 l0_3 x38_2).f1), .int .i64 ((rd_T32 l0_3 x38_2).f2), .int .i64 ((rd_T32 l0_3 x38_2).f3)] 32 (0,0))):=⟨by rw [←hW_];exact kp BK139.out⟩;have n2_:Aside0 (Below w.heap.size w w30):=⟨by rw [←hW_];exact bw HB.out⟩;(try clear BK135);(try clear BK139);(try clear HB);clear hW_;revert n0_ n1_ n2_;intro BK135 BK139 HB;replace BK135:=am (blk_drew BK135.out);replace BK139:=am (blk_drew BK139.out);replace HB:=am (below_drew1 HB.out);refine start_ (n:=57) (S:=fun w'=>w'.cell? ⟨gb139,0,none⟩=some (.int .i64 ((rd_T32 l0_3 x38_2).f0))∧w'.cell? ⟨gb139,1,none⟩=some (.string ((rd_T32 l0_3 x38_2).f1))∧w'.cell? ⟨gb139,2,none⟩=some (.int .i64 ((rd_T32 l0_3 x38_2).f2))∧w'.cell? ⟨gb139,3,none⟩=some (.int .i64 ((rd_T32 l0_3 x38_2).f3))∧w'.cell? ⟨gb135,0,none⟩=some (.int .i64 a0_0)∧w'.cell? ⟨gb135,1,none⟩=some (.slice A0_1 l0_1.length c0_1)∧w'.cell? ⟨gb135,2,none⟩=some (.slice A0_2 l0_2.length c0_2)∧w'.cell? ⟨gb135,3,none⟩=some (.slice (some ad138) l0_3.length c0_3)) (ds:=[]) (mkp 57 0) (by kernel_rfl) rfl rfl (b4 BK139 (b4e BK135)) (fun hHeld=> ?_);refine with_tabW impl_AutomatonValid.tab6 impl_AutomatonValid.bits6 (fun HT_ HW_=> ?_);generalize w30.drew=w31 at BK135 BK139 HB hHeld ⊢;(iterate 5 (first|refine qv HT_ ?_|refine tk HT_ HW_ hHeld ?_));refine pv 6 49 57 95 HT_ ?_;refine tkm 5 48 (mkp 57 7) HT_ HW_ hHeld ?_;(iterate 50 (first|refine qu HT_ ?_|refine qv HT_ ?_|refine tk HT_ HW_ hHeld ?_));refine done_ (done_of HT_.out (by kernel_rfl)) ?_;(try go_wp2);go_ret;exact ⟨by first|rfl|(simp [errW_none,errW_some]<;> rfl)|(simp [*,errW_none,errW_some]<;> rfl),by exact bw HB.out⟩
          ·rw [if_neg c26] at H;have c26b0:decide (a0_0≤((rd_T32 l0_3 x38_2).f0))=false:=decide_eq_false c26;clear c26;by_cases c32:((rd_T32 l0_3 x38_2).f2)<0
           ·rw [if_pos c32] at H;have c32b0:=decide_eq_true c32;clear c32;obtain rfl:=Option.some.inj H;have p138:0≤(x38_2:Int):=da;have q138:x38_2<(l0_3.length:Int):=da;obtain ⟨ad138,e138,hx138_0,hx138_1,hx138_2,hx138_3⟩:=at_T32 HR0_3.out x38_2 p138 q138;cases e138;replace hx138_0:=lx (bw HB.out) hx138_0;replace hx138_1:=lx (bw HB.out) hx138_1;replace hx138_2:=lx (bw HB.out) hx138_2;replace hx138_3:=lx (bw HB.out) hx138_3;replace p138:=eq_true p138;replace q138:=eq_true q138;(try go_wp2_with (first|((with_reducible refine gx 4 rfl ?_);(try (refine gate_guard (by rfl) ?_;dsimp only));refine be (cs:= #[.int .i64 0, .string (⟨#[]⟩:ByteArray), .int .i64 0, .int .i64 0]) (t:=32) ?_;intro gb139 hg w33 hbox hb;have BK139:=am (hbox);have GW139:=gs hg (bw HB.out);have GE139:=gs hg (bw HB.out);replace HB:=hs HB hb;have NB135_139:=nl hg (kz BK135.out);have NB139_135:=nr hg (kz BK135.out);replace BK135:=bk BK135 hb;clear hb hbox hg;have hnb34:=NB139_135.out;have hnc34:=NB135_139.out;have hz35:=zf4 BK139.out)));generalize hW_:((((w33.setCell ⟨gb139,0,none⟩ (.int .i64 ((rd_T32 l0_3 x38_2).f0))).setCell ⟨gb139,1,none⟩ (.string ((rd_T32 l0_3 x38_2).f1))).setCell ⟨gb139,2,none⟩ (.int .i64 ((rd_T32 l0_3 x38_2).f2))).setCell ⟨gb139,3,none⟩ (.int .i64 ((rd_T32 l0_3 x38_2).f3)))=w36;have n0_:Aside0 (w36.heap[gb135]? =some (.cells #[.int .i64 a0_0, .slice A0_1 l0_1.length c0_1, .slice A0_2 l0_2.length c0_2, .slice (some ad138) l0_3.length c0_3] 26 (0,0))):=⟨by rw [←hW_];exact kp BK135.out⟩;have n1_:Aside0 (w36.heap[gb139]? =some (.cells #[.int .i64 ((rd_T32 l0_3 x38_2).f0), .string ((rd_T32 l0_3 x38_2).f1), .int .i64 ((rd_T32 l0_3 x38_2).f2), .int .i64 ((rd_T32 l0_3 x38_2).f3)] 32 (0,0))):=⟨by rw [←hW_];exact kp BK139.out⟩;have n2_:Aside0 (Below w.heap.size w w36):=⟨by rw [←hW_];exact bw HB.out⟩;(try clear BK135);(try clear BK139);(try clear HB);clear hW_;revert n0_ n1_ n2_;intro BK135 BK139 HB;replace BK135:=am (blk_drew BK135.out);replace BK139:=am (blk_drew BK139.out);replace HB:=am (below_drew1 HB.out);refine start_ (n:=57) (S:=fun w'=>w'.cell? ⟨gb139,0,none⟩=some (.int .i64 ((rd_T32 l0_3 x38_2).f0))∧w'.cell? ⟨gb139,1,none⟩=some (.string ((rd_T32 l0_3 x38_2).f1))∧w'.cell? ⟨gb139,2,none⟩=some (.int .i64 ((rd_T32 l0_3 x38_2).f2))∧w'.cell? ⟨gb139,3,none⟩=some (.int .i64 ((rd_T32 l0_3 x38_2).f3))∧w'.cell? ⟨gb135,0,none⟩=some (.int .i64 a0_0)∧w'.cell? ⟨gb135,1,none⟩=some (.slice A0_1 l0_1.length c0_1)∧w'.cell? ⟨gb135,2,none⟩=some (.slice A0_2 l0_2.length c0_2)∧w'.cell? ⟨gb135,3,none⟩=some (.slice (some ad138) l0_3.length c0_3)) (ds:=[]) (mkp 57 0) (by kernel_rfl) rfl rfl (b4 BK139 (b4e BK135)) (fun hHeld=> ?_);refine with_tabW impl_AutomatonValid.tab6 impl_AutomatonValid.bits6 (fun HT_ HW_=> ?_);generalize w36.drew=w37 at BK135 BK139 HB hHeld ⊢;(iterate 5 (first|refine qv HT_ ?_|refine tk HT_ HW_ hHeld ?_));refine pv 6 49 57 95 HT_ ?_;refine tkm 5 48 (mkp 57 7) HT_ HW_ hHeld ?_;(iterate 50 (first|refine qu HT_ ?_|refine qv HT_ ?_|refine tk HT_ HW_ hHeld ?_));refine done_ (done_of HT_.out (by kernel_rfl)) ?_;(try go_wp2);go_ret;exact ⟨by first|rfl|(simp [errW_none,errW_some]<;> rfl)|(simp [*,errW_none,errW_some]<;> rfl),by exact bw HB.out⟩
           ·rw [if_neg c32] at H;have c32b0:=decide_eq_false c32;clear c32;by_cases c38:((rd_T32 l0_3 x38_2).f2)≥a0_0
            ·rw [if_pos c38] at H;have c38b0:decide (a0_0≤((rd_T32 l0_3 x38_2).f2))=true:=decide_eq_true c38;clear c38;obtain rfl:=Option.some.inj H;have p138:0≤(x38_2:Int):=da;have q138:x38_2<(l0_3.length:Int):=da;obtain ⟨ad138,e138,hx138_0,hx138_1,hx138_2,hx138_3⟩:=at_T32 HR0_3.out x38_2 p138 q138;cases e138;replace hx138_0:=lx (bw HB.out) hx138_0;replace hx138_1:=lx (bw HB.out) hx138_1;replace hx138_2:=lx (bw HB.out) hx138_2;replace hx138_3:=lx (bw HB.out) hx138_3;replace p138:=eq_true p138;replace q138:=eq_true q138;(try go_wp2_with (first|((with_reducible refine gx 4 rfl ?_);(try (refine gate_guard (by rfl) ?_;dsimp only));refine be (cs:= #[.int .i64 0, .string (⟨#[]⟩:ByteArray), .int .i64 0, .int .i64 0]) (t:=32) ?_;intro gb139 hg w39 hbox hb;have BK139:=am (hbox);have GW139:=gs hg (bw HB.out);have GE139:=gs hg (bw HB.out);replace HB:=hs HB hb;have NB135_139:=nl hg (kz BK135.out);have NB139_135:=nr hg (kz BK135.out);replace BK135:=bk BK135 hb;clear hb hbox hg;have hnb40:=NB139_135.out;have hnc40:=NB135_139.out;have hz41:=zf4 BK139.out)));generalize hW_:((((w39.setCell ⟨gb139,0,none⟩ (.int .i64 ((rd_T32 l0_3 x38_2).f0))).setCell ⟨gb139,1,none⟩ (.string ((rd_T32 l0_3 x38_2).f1))).setCell ⟨gb139,2,none⟩ (.int .i64 ((rd_T32 l0_3 x38_2).f2))).setCell ⟨gb139,3,none⟩ (.int .i64 ((rd_T32 l0_3 x38_2).f3)))=w42;have n0_:Aside0 (w42.heap[gb135]? =some (.cells #[.int .i64 a0_0, .slice A0_1 l0_1.length c0_1, .slice A0_2 l0_2.length c0_2, .slice (some ad138) l0_3.length c0_3] 26 (0,0))):=⟨by rw [←hW_];exact kp BK135.out⟩;have n1_:Aside0 (w42.heap[gb139]? =some (.cells #[.int .i64 ((rd_T32 l0_3 x38_2).f0), .string ((rd_T32 l0_3 x38_2).f1), .int .i64 ((rd_T32 l0_3 x38_2).f2), .int .i64 ((rd_T32 l0_3 x38_2).f3)] 32 (0,0))):=⟨by rw [←hW_];exact kp BK139.out⟩;have n2_:Aside0 (Below w.heap.size w w42):=⟨by rw [←hW_];exact bw HB.out⟩;(try clear BK135);(try clear BK139);(try clear HB);clear hW_;revert n0_ n1_ n2_;intro BK135 BK139 HB;replace BK135:=am (blk_drew BK135.out);replace BK139:=am (blk_drew BK139.out);replace HB:=am (below_drew1 HB.out);refine start_ (n:=57) (S:=fun w'=>w'.cell? ⟨gb139,0,none⟩=some (.int .i64 ((rd_T32 l0_3 x38_2).f0))∧w'.cell? ⟨gb139,1,none⟩=some (.string ((rd_T32 l0_3 x38_2).f1))∧w'.cell? ⟨gb139,2,none⟩=some (.int .i64 ((rd_T32 l0_3 x38_2).f2))∧w'.cell? ⟨gb139,3,none⟩=some (.int .i64 ((rd_T32 l0_3 x38_2).f3))∧w'.cell? ⟨gb135,0,none⟩=some (.int .i64 a0_0)∧w'.cell? ⟨gb135,1,none⟩=some (.slice A0_1 l0_1.length c0_1)∧w'.cell? ⟨gb135,2,none⟩=some (.slice A0_2 l0_2.length c0_2)∧w'.cell? ⟨gb135,3,none⟩=some (.slice (some ad138) l0_3.length c0_3)) (ds:=[]) (mkp 57 0) (by kernel_rfl) rfl rfl (b4 BK139 (b4e BK135)) (fun hHeld=> ?_);refine with_tabW impl_AutomatonValid.tab6 impl_AutomatonValid.bits6 (fun HT_ HW_=> ?_);generalize w42.drew=w43 at BK135 BK139 HB hHeld ⊢;(iterate 5 (first|refine qv HT_ ?_|refine tk HT_ HW_ hHeld ?_));refine pv 6 49 57 95 HT_ ?_;refine tkm 5 48 (mkp 57 7) HT_ HW_ hHeld ?_;(iterate 10 (first|refine qv HT_ ?_|refine tk HT_ HW_ hHeld ?_));refine pv 18 61 57 393215 HT_ ?_;refine tkm 17 60 (mkp 57 19) HT_ HW_ hHeld ?_;(iterate 38 (first|refine qu HT_ ?_|refine qv HT_ ?_|refine tk HT_ HW_ hHeld ?_));refine done_ (done_of HT_.out (by kernel_rfl)) ?_;(try go_wp2);go_ret;exact ⟨by first|rfl|(simp [errW_none,errW_some]<;> rfl)|(simp [*,errW_none,errW_some]<;> rfl),by exact bw HB.out⟩
            ·rw [if_neg c38] at H;have c38b0:decide (a0_0≤((rd_T32 l0_3 x38_2).f2))=false:=decide_eq_false c38;clear c38;by_cases c44:((rd_T32 l0_3 x38_2).f1).toList=([97]:List UInt8)
             ·rw [if_pos c44] at H;have c44b0:(((rd_T32 l0_3 x38_2).f1).toList==([97]:List UInt8))=true:=beq_iff_eq.mpr c44;have c44b1:(((rd_T32 l0_3 x38_2).f1).toList != ([97]:List UInt8))=false:=bne_eq_false_iff_eq.mpr c44;clear c44;by_cases c45:((rd_T32 l0_3 x38_2).f3)<0
              ·rw [if_pos c45] at H;have c45b0:=decide_eq_true c45;clear c45;obtain rfl:=Option.some.inj H;have p138:0≤(x38_2:Int):=da;have q138:x38_2<(l0_3.length:Int):=da;obtain ⟨ad138,e138,hx138_0,hx138_1,hx138_2,hx138_3⟩:=at_T32 HR0_3.out x38_2 p138 q138;cases e138;replace hx138_0:=lx (bw HB.out) hx138_0;replace hx138_1:=lx (bw HB.out) hx138_1;replace hx138_2:=lx (bw HB.out) hx138_2;replace hx138_3:=lx (bw HB.out) hx138_3;replace p138:=eq_true p138;replace q138:=eq_true q138;(try go_wp2_with (first|((with_reducible refine gx 4 rfl ?_);(try (refine gate_guard (by rfl) ?_;dsimp only));refine be (cs:= #[.int .i64 0, .string (⟨#[]⟩:ByteArray), .int .i64 0, .int .i64 0]) (t:=32) ?_;intro gb139 hg w46 hbox hb;have BK139:=am (hbox);have GW139:=gs hg (bw HB.out);have GE139:=gs hg (bw HB.out);replace HB:=hs HB hb;have NB135_139:=nl hg (kz BK135.out);have NB139_135:=nr hg (kz BK135.out);replace BK135:=bk BK135 hb;clear hb hbox hg;have hnb47:=NB139_135.out;have hnc47:=NB135_139.out;have hz48:=zf4 BK139.out)));generalize hW_:((((w46.setCell ⟨gb139,0,none⟩ (.int .i64 ((rd_T32 l0_3 x38_2).f0))).setCell ⟨gb139,1,none⟩ (.string ((rd_T32 l0_3 x38_2).f1))).setCell ⟨gb139,2,none⟩ (.int .i64 ((rd_T32 l0_3 x38_2).f2))).setCell ⟨gb139,3,none⟩ (.int .i64 ((rd_T32 l0_3 x38_2).f3)))=w49;have n0_:Aside0 (w49.heap[gb135]? =some (.cells #[.int .i64 a0_0, .slice A0_1 l0_1.length c0_1, .slice A0_2 l0_2.length c0_2, .slice (some ad138) l0_3.length c0_3] 26 (0,0))):=⟨by rw [←hW_];exact kp BK135.out⟩;have n1_:Aside0 (w49.heap[gb139]? =some (.cells #[.int .i64 ((rd_T32 l0_3 x38_2).f0), .string ((rd_T32 l0_3 x38_2).f1), .int .i64 ((rd_T32 l0_3 x38_2).f2), .int .i64 ((rd_T32 l0_3 x38_2).f3)] 32 (0,0))):=⟨by rw [←hW_];exact kp BK139.out⟩;have n2_:Aside0 (Below w.heap.size w w49):=⟨by rw [←hW_];exact bw HB.out⟩;(try clear BK135);(try clear BK139);(try clear HB);clear hW_;revert n0_ n1_ n2_;intro BK135 BK139 HB;replace BK135:=am (blk_drew BK135.out);replace BK139:=am (blk_drew BK139.out);replace HB:=am (below_drew1 HB.out);refine start_ (n:=57) (S:=fun w'=>w'.cell? ⟨gb139,0,none⟩=some (.int .i64 ((rd_T32 l0_3 x38_2).f0))∧w'.cell? ⟨gb139,1,none⟩=some (.string ((rd_T32 l0_3 x38_2).f1))∧w'.cell? ⟨gb139,2,none⟩=some (.int .i64 ((rd_T32 l0_3 x38_2).f2))∧w'.cell? ⟨gb139,3,none⟩=some (.int .i64 ((rd_T32 l0_3 x38_2).f3))∧w'.cell? ⟨gb135,0,none⟩=some (.int .i64 a0_0)∧w'.cell? ⟨gb135,1,none⟩=some (.slice A0_1 l0_1.length c0_1)∧w'.cell? ⟨gb135,2,none⟩=some (.slice A0_2 l0_2.length c0_2)∧w'.cell? ⟨gb135,3,none⟩=some (.slice (some ad138) l0_3.length c0_3)) (ds:=[]) (mkp 57 0) (by kernel_rfl) rfl rfl (b4 BK139 (b4e BK135)) (fun hHeld=> ?_);refine with_tabW impl_AutomatonValid.tab6 impl_AutomatonValid.bits6 (fun HT_ HW_=> ?_);generalize w49.drew=w50 at BK135 BK139 HB hHeld ⊢;(iterate 5 (first|refine qv HT_ ?_|refine tk HT_ HW_ hHeld ?_));refine pv 6 49 57 95 HT_ ?_;refine tkm 5 48 (mkp 57 7) HT_ HW_ hHeld ?_;(iterate 10 (first|refine qv HT_ ?_|refine tk HT_ HW_ hHeld ?_));refine pv 18 61 57 393215 HT_ ?_;refine tkm 17 60 (mkp 57 19) HT_ HW_ hHeld ?_;(iterate 38 (first|refine qu HT_ ?_|refine qv HT_ ?_|refine tk HT_ HW_ hHeld ?_));refine done_ (done_of HT_.out (by kernel_rfl)) ?_;(try go_wp2);go_ret;exact ⟨by first|rfl|(simp [errW_none,errW_some]<;> rfl)|(simp [*,errW_none,errW_some]<;> rfl),by exact bw HB.out⟩
              ·rw [if_neg c45] at H;have c45b0:=decide_eq_false c45;clear c45;by_cases c51:((rd_T32 l0_3 x38_2).f3)>3
               ·rw [if_pos c51] at H;have c51b0:decide (3<((rd_T32 l0_3 x38_2).f3))=true:=decide_eq_true c51;clear c51;obtain rfl:=Option.some.inj H;have p138:0≤(x38_2:Int):=da;have q138:x38_2<(l0_3.length:Int):=da;obtain ⟨ad138,e138,hx138_0,hx138_1,hx138_2,hx138_3⟩:=at_T32 HR0_3.out x38_2 p138 q138;cases e138;replace hx138_0:=lx (bw HB.out) hx138_0;replace hx138_1:=lx (bw HB.out) hx138_1;replace hx138_2:=lx (bw HB.out) hx138_2;replace hx138_3:=lx (bw HB.out) hx138_3;replace p138:=eq_true p138;replace q138:=eq_true q138;(try go_wp2_with (first|((with_reducible refine gx 4 rfl ?_);(try (refine gate_guard (by rfl) ?_;dsimp only));refine be (cs:= #[.int .i64 0, .string (⟨#[]⟩:ByteArray), .int .i64 0, .int .i64 0]) (t:=32) ?_;intro gb139 hg w52 hbox hb;have BK139:=am (hbox);have GW139:=gs hg (bw HB.out);have GE139:=gs hg (bw HB.out);replace HB:=hs HB hb;have NB135_139:=nl hg (kz BK135.out);have NB139_135:=nr hg (kz BK135.out);replace BK135:=bk BK135 hb;clear hb hbox hg;have hnb53:=NB139_135.out;have hnc53:=NB135_139.out;have hz54:=zf4 BK139.out)));generalize hW_:((((w52.setCell ⟨gb139,0,none⟩ (.int .i64 ((rd_T32 l0_3 x38_2).f0))).setCell ⟨gb139,1,none⟩ (.string ((rd_T32 l0_3 x38_2).f1))).setCell ⟨gb139,2,none⟩ (.int .i64 ((rd_T32 l0_3 x38_2).f2))).setCell ⟨gb139,3,none⟩ (.int .i64 ((rd_T32 l0_3 x38_2).f3)))=w55;have n0_:Aside0 (w55.heap[gb135]? =some (.cells #[.int .i64 a0_0, .slice A0_1 l0_1.length c0_1, .slice A0_2 l0_2.length c0_2, .slice (some ad138) l0_3.length c0_3] 26 (0,0))):=⟨by rw [←hW_];exact kp BK135.out⟩;have n1_:Aside0 (w55.heap[gb139]? =some (.cells #[.int .i64 ((rd_T32 l0_3 x38_2).f0), .string ((rd_T32 l0_3 x38_2).f1), .int .i64 ((rd_T32 l0_3 x38_2).f2), .int .i64 ((rd_T32 l0_3 x38_2).f3)] 32 (0,0))):=⟨by rw [←hW_];exact kp BK139.out⟩;have n2_:Aside0 (Below w.heap.size w w55):=⟨by rw [←hW_];exact bw HB.out⟩;(try clear BK135);(try clear BK139);(try clear HB);clear hW_;revert n0_ n1_ n2_;intro BK135 BK139 HB;replace BK135:=am (blk_drew BK135.out);replace BK139:=am (blk_drew BK139.out);replace HB:=am (below_drew1 HB.out);refine start_ (n:=57) (S:=fun w'=>w'.cell? ⟨gb139,0,none⟩=some (.int .i64 ((rd_T32 l0_3 x38_2).f0))∧w'.cell? ⟨gb139,1,none⟩=some (.string ((rd_T32 l0_3 x38_2).f1))∧w'.cell? ⟨gb139,2,none⟩=some (.int .i64 ((rd_T32 l0_3 x38_2).f2))∧w'.cell? ⟨gb139,3,none⟩=some (.int .i64 ((rd_T32 l0_3 x38_2).f3))∧w'.cell? ⟨gb135,0,none⟩=some (.int .i64 a0_0)∧w'.cell? ⟨gb135,1,none⟩=some (.slice A0_1 l0_1.length c0_1)∧w'.cell? ⟨gb135,2,none⟩=some (.slice A0_2 l0_2.length c0_2)∧w'.cell? ⟨gb135,3,none⟩=some (.slice (some ad138) l0_3.length c0_3)) (ds:=[]) (mkp 57 0) (by kernel_rfl) rfl rfl (b4 BK139 (b4e BK135)) (fun hHeld=> ?_);refine with_tabW impl_AutomatonValid.tab6 impl_AutomatonValid.bits6 (fun HT_ HW_=> ?_);generalize w55.drew=w56 at BK135 BK139 HB hHeld ⊢;(iterate 5 (first|refine qv HT_ ?_|refine tk HT_ HW_ hHeld ?_));refine pv 6 49 57 95 HT_ ?_;refine tkm 5 48 (mkp 57 7) HT_ HW_ hHeld ?_;(iterate 10 (first|refine qv HT_ ?_|refine tk HT_ HW_ hHeld ?_));refine pv 18 61 57 393215 HT_ ?_;refine tkm 17 60 (mkp 57 19) HT_ HW_ hHeld ?_;(iterate 38 (first|refine qu HT_ ?_|refine qv HT_ ?_|refine tk HT_ HW_ hHeld ?_));refine done_ (done_of HT_.out (by kernel_rfl)) ?_;(try go_wp2);go_ret;exact ⟨by first|rfl|(simp [errW_none,errW_some]<;> rfl)|(simp [*,errW_none,errW_some]<;> rfl),by exact bw HB.out⟩
               ·rw [if_neg c51] at H;have c51b0:decide (3<((rd_T32 l0_3 x38_2).f3))=false:=decide_eq_false c51;clear c51;by_cases c57:x38_2>0
                ·rw [if_pos c57] at H;have c57b0:decide (0<x38_2)=true:=decide_eq_true c57;clear c57;obtain ⟨ji58,hji58⟩:∃j_:Int,(wrap64 (x38_2 - 1))=j_:=⟨_,rfl⟩
                 replace H:(if 0≤(ji58) then (if (ji58)<(l0_3.length:Int) then ((impl_stepOrder.f k2 ((rd_T32 l0_3 (ji58)).f0) ((rd_T32 l0_3 (ji58)).f1) ((rd_T32 l0_3 (ji58)).f2) ((rd_T32 l0_3 (ji58)).f3) ((rd_T32 l0_3 x38_2).f0) ((rd_T32 l0_3 x38_2).f1) ((rd_T32 l0_3 x38_2).f2) ((rd_T32 l0_3 x38_2).f3)).bind fun t141=>(if t141≥0 then (some false) else (impl_AutomatonValid.l0 k2 l0_3 (l0_3.length:Int) (wrap64 (x38_2+1)) a0_0 l0_1 l0_2 l0_3))) else (none)) else (none))=some r:=by first|(rw [hji58] at H;exact H)|(simp only [hji58] at H ⊢;exact H)
                 have hji58w:(IntKind.i64.wrap (x38_2 - 1))=ji58:=(i64_w _).trans hji58;by_cases c59:0≤(ji58)
                 ·rw [if_pos c59] at H;have c59b0:=decide_eq_true c59;clear c59;by_cases c60:(ji58)<(l0_3.length:Int)
                  ·rw [if_pos c60] at H;have c60b0:=decide_eq_true c60;clear c60;obtain ⟨t141,A61,H⟩:=bO H;(try dsimp only at H);by_cases c62:t141≥0
                   ·rw [if_pos c62] at H;have c62b0:decide (0≤t141)=true:=decide_eq_true c62;clear c62;obtain rfl:=Option.some.inj H;have p138:0≤(x38_2:Int):=da;have q138:x38_2<(l0_3.length:Int):=da;obtain ⟨ad138,e138,hx138_0,hx138_1,hx138_2,hx138_3⟩:=at_T32 HR0_3.out x38_2 p138 q138;cases e138;replace hx138_0:=lx (bw HB.out) hx138_0;replace hx138_1:=lx (bw HB.out) hx138_1;replace hx138_2:=lx (bw HB.out) hx138_2;replace hx138_3:=lx (bw HB.out) hx138_3;replace p138:=eq_true p138;replace q138:=eq_true q138;(try go_wp2_with (first|((with_reducible refine gx 4 rfl ?_);(try (refine gate_guard (by rfl) ?_;dsimp only));refine be (cs:= #[.int .i64 0, .string (⟨#[]⟩:ByteArray), .int .i64 0, .int .i64 0]) (t:=32) ?_;intro gb139 hg w63 hbox hb;have BK139:=am (hbox);have GW139:=gs hg (bw HB.out);have GE139:=gs hg (bw HB.out);replace HB:=hs HB hb;have NB135_139:=nl hg (kz BK135.out);have NB139_135:=nr hg (kz BK135.out);replace BK135:=bk BK135 hb;clear hb hbox hg;have hnb64:=NB139_135.out;have hnc64:=NB135_139.out;have hz65:=zf4 BK139.out)));generalize hW_:((((w63.setCell ⟨gb139,0,none⟩ (.int .i64 ((rd_T32 l0_3 x38_2).f0))).setCell ⟨gb139,1,none⟩ (.string ((rd_T32 l0_3 x38_2).f1))).setCell ⟨gb139,2,none⟩ (.int .i64 ((rd_T32 l0_3 x38_2).f2))).setCell ⟨gb139,3,none⟩ (.int .i64 ((rd_T32 l0_3 x38_2).f3)))=w66;have n0_:Aside0 (w66.heap[gb135]? =some (.cells #[.int .i64 a0_0, .slice A0_1 l0_1.length c0_1, .slice A0_2 l0_2.length c0_2, .slice (some ad138) l0_3.length c0_3] 26 (0,0))):=⟨by rw [←hW_];exact kp BK135.out⟩;have n1_:Aside0 (w66.heap[gb139]? =some (.cells #[.int .i64 ((rd_T32 l0_3 x38_2).f0), .string ((rd_T32 l0_3 x38_2).f1), .int .i64 ((rd_T32 l0_3 x38_2).f2), .int .i64 ((rd_T32 l0_3 x38_2).f3)] 32 (0,0))):=⟨by rw [←hW_];exact kp BK139.out⟩;have n2_:Aside0 (Below w.heap.size w w66):=⟨by rw [←hW_];exact bw HB.out⟩;(try clear BK135);(try clear BK139);(try clear HB);clear hW_;revert n0_ n1_ n2_;intro BK135 BK139 HB;replace BK135:=am (blk_drew BK135.out);replace BK139:=am (blk_drew BK139.out);replace HB:=am (below_drew1 HB.out);have p140:0≤((ji58):Int):=da;have q140:(ji58)<(l0_3.length:Int):=da;obtain ⟨ad140,e140,hx140_0,hx140_1,hx140_2,hx140_3⟩:=at_T32 HR0_3.out (ji58) p140 q140;have hw140_3:=hx140_3;have hw140_2:=hx140_2;have hw140_1:=hx140_1;have hw140_0:=hx140_0;obtain rfl:ad138=ad140:=(by injection e140);replace hx140_0:=lx (bw HB.out) hx140_0;replace hx140_1:=lx (bw HB.out) hx140_1;replace hx140_2:=lx (bw HB.out) hx140_2;replace hx140_3:=lx (bw HB.out) hx140_3;replace p140:=eq_true p140;replace q140:=eq_true q140;refine start_ (n:=57) (S:=fun w'=>w'.cell? ⟨gb139,0,none⟩=some (.int .i64 ((rd_T32 l0_3 x38_2).f0))∧w'.cell? ⟨gb139,1,none⟩=some (.string ((rd_T32 l0_3 x38_2).f1))∧w'.cell? ⟨gb139,2,none⟩=some (.int .i64 ((rd_T32 l0_3 x38_2).f2))∧w'.cell? ⟨gb139,3,none⟩=some (.int .i64 ((rd_T32 l0_3 x38_2).f3))∧w'.cell? ⟨gb135,0,none⟩=some (.int .i64 a0_0)∧w'.cell? ⟨gb135,1,none⟩=some (.slice A0_1 l0_1.length c0_1)∧w'.cell? ⟨gb135,2,none⟩=some (.slice A0_2 l0_2.length c0_2)∧w'.cell? ⟨gb135,3,none⟩=some (.slice (some ad138) l0_3.length c0_3)∧w'.cell? (ad138.add (((ji58)).toNat*4))=some (.int .i64 ((rd_T32 l0_3 (ji58)).f0))∧w'.cell? ⟨(ad138.add (((ji58)).toNat*4)).block,(ad138.add (((ji58)).toNat*4)).off+1,none⟩=some (.string ((rd_T32 l0_3 (ji58)).f1))∧w'.cell? ⟨(ad138.add (((ji58)).toNat*4)).block,(ad138.add (((ji58)).toNat*4)).off+2,none⟩=some (.int .i64 ((rd_T32 l0_3 (ji58)).f2))∧w'.cell? ⟨(ad138.add (((ji58)).toNat*4)).block,(ad138.add (((ji58)).toNat*4)).off+3,none⟩=some (.int .i64 ((rd_T32 l0_3 (ji58)).f3))) (ds:=[]) (mkp 57 0) (by kernel_rfl) rfl rfl ⟨bl BK139.out 0,bl BK139.out 1,bl BK139.out 2,bl BK139.out 3,bl BK135.out 0,bl BK135.out 1,bl BK135.out 2,bl BK135.out 3,(lx (bw HB.out) hw140_0),(lx (bw HB.out) hw140_1),(lx (bw HB.out) hw140_2),(lx (bw HB.out) hw140_3)⟩ (fun hHeld=> ?_);refine with_tabW impl_AutomatonValid.tab6 impl_AutomatonValid.bits6 (fun HT_ HW_=> ?_);generalize w66.drew=w67 at BK135 BK139 HB hx140_0 hx140_1 hx140_2 hx140_3 hHeld ⊢;(iterate 5 (first|refine qv HT_ ?_|refine tk HT_ HW_ hHeld ?_));refine pv 6 49 57 95 HT_ ?_;refine tkm 5 48 (mkp 57 7) HT_ HW_ hHeld ?_;(iterate 10 (first|refine qv HT_ ?_|refine tk HT_ HW_ hHeld ?_));refine pv 18 61 57 393215 HT_ ?_;refine tkm 17 60 (mkp 57 19) HT_ HW_ hHeld ?_;(iterate 28 (first|refine qu HT_ ?_|refine qv HT_ ?_|refine tk HT_ HW_ hHeld ?_));refine pv 48 91 57 422212465065983 HT_ ?_;refine pv 49 92 57 985162418487295 HT_ ?_;refine tkm 47 90 (mkp 57 50) HT_ HW_ hHeld ?_;(iterate 3 (first|refine qv HT_ ?_|refine tk HT_ HW_ hHeld ?_));refine on 53 (mkp 57 54) HT_ (fun K hK=> ?_);refine goes_ Try.func61 (by kernel_rfl) rfl #[.agg #[.int .i64 ((rd_T32 l0_3 (ji58)).f0), .string ((rd_T32 l0_3 (ji58)).f1), .int .i64 ((rd_T32 l0_3 (ji58)).f2), .int .i64 ((rd_T32 l0_3 (ji58)).f3)], .agg #[.int .i64 ((rd_T32 l0_3 x38_2).f0), .string ((rd_T32 l0_3 x38_2).f1), .int .i64 ((rd_T32 l0_3 x38_2).f2), .int .i64 ((rd_T32 l0_3 x38_2).f3)]] (by rfl) rfl rfl (by (try simp only [List.map_toArray,List.map_cons,List.map_nil]);first|done|(simp only [hji58];rfl)|rfl|(simp only [List.length_drop,List.length_take];rfl)) ?_
                    with_reducible refine (impl_stepOrder.calls k2 ((rd_T32 l0_3 (ji58)).f0) ((rd_T32 l0_3 (ji58)).f1) ((rd_T32 l0_3 (ji58)).f2) ((rd_T32 l0_3 (ji58)).f3) ((rd_T32 l0_3 x38_2).f0) ((rd_T32 l0_3 x38_2).f1) ((rd_T32 l0_3 x38_2).f2) ((rd_T32 l0_3 x38_2).f3) t141 _ A61.out).mono ?_
                    rintro e w68 ⟨rfl,hb⟩;refine ⟨_,rfl,?_⟩;replace BK135:=bk BK135 hb;replace BK139:=bk BK139 hb;replace HB:=hs HB hb;(try clear hb);refine hK.out _ _ ⟨bl BK139.out 0,bl BK139.out 1,bl BK139.out 2,bl BK139.out 3,bl BK135.out 0,bl BK135.out 1,bl BK135.out 2,bl BK135.out 3,(lx (bw HB.out) hw140_0),(lx (bw HB.out) hw140_1),(lx (bw HB.out) hw140_2),(lx (bw HB.out) hw140_3)⟩ (fun hHeld=> ?_);clear hK K;refine norm_ (a':= ?_) ?_ ?_;rotate_left
                    ·show Act.put _ (some 96) _=_;simp only [Act.put,List.setIfInBounds_toArray,List.set_cons_zero,List.set_cons_succ,i64_w,i32_w];rfl
                    (iterate 3 refine qv HT_ ?_);refine done_ (done_of HT_.out (by kernel_rfl)) ?_;(try go_wp2);go_ret;exact ⟨by first|rfl|(simp [errW_none,errW_some]<;> rfl)|(simp only [←hji58];first|rfl|(simp [errW_none,errW_some]<;> rfl))|(simp [*,errW_none,errW_some]<;> rfl),by exact bw HB.out⟩
                   ·rw [if_neg c62] at H;have c62b0:decide (0≤t141)=false:=decide_eq_false c62;clear c62;have H':=am H;clear H;have p138:0≤(x38_2:Int):=da;have q138:x38_2<(l0_3.length:Int):=da;obtain ⟨ad138,e138,hx138_0,hx138_1,hx138_2,hx138_3⟩:=at_T32 HR0_3.out x38_2 p138 q138;cases e138;replace hx138_0:=lx (bw HB.out) hx138_0;replace hx138_1:=lx (bw HB.out) hx138_1;replace hx138_2:=lx (bw HB.out) hx138_2;replace hx138_3:=lx (bw HB.out) hx138_3;replace p138:=eq_true p138;replace q138:=eq_true q138;(try go_wp2_with (first|((with_reducible refine gx 4 rfl ?_);(try (refine gate_guard (by rfl) ?_;dsimp only));refine be (cs:= #[.int .i64 0, .string (⟨#[]⟩:ByteArray), .int .i64 0, .int .i64 0]) (t:=32) ?_;intro gb139 hg w69 hbox hb;have BK139:=am (hbox);have GW139:=gs hg (bw HB.out);have GE139:=gs hg (bw HB.out);replace HB:=hs HB hb;have NB135_139:=nl hg (kz BK135.out);have NB139_135:=nr hg (kz BK135.out);replace BK135:=bk BK135 hb;clear hb hbox hg;have hnb70:=NB139_135.out;have hnc70:=NB135_139.out;have hz71:=zf4 BK139.out)));generalize hW_:((((w69.setCell ⟨gb139,0,none⟩ (.int .i64 ((rd_T32 l0_3 x38_2).f0))).setCell ⟨gb139,1,none⟩ (.string ((rd_T32 l0_3 x38_2).f1))).setCell ⟨gb139,2,none⟩ (.int .i64 ((rd_T32 l0_3 x38_2).f2))).setCell ⟨gb139,3,none⟩ (.int .i64 ((rd_T32 l0_3 x38_2).f3)))=w72;have n0_:Aside0 (w72.heap[gb135]? =some (.cells #[.int .i64 a0_0, .slice A0_1 l0_1.length c0_1, .slice A0_2 l0_2.length c0_2, .slice (some ad138) l0_3.length c0_3] 26 (0,0))):=⟨by rw [←hW_];exact kp BK135.out⟩;have n1_:Aside0 (w72.heap[gb139]? =some (.cells #[.int .i64 ((rd_T32 l0_3 x38_2).f0), .string ((rd_T32 l0_3 x38_2).f1), .int .i64 ((rd_T32 l0_3 x38_2).f2), .int .i64 ((rd_T32 l0_3 x38_2).f3)] 32 (0,0))):=⟨by rw [←hW_];exact kp BK139.out⟩;have n2_:Aside0 (Below w.heap.size w w72):=⟨by rw [←hW_];exact bw HB.out⟩;(try clear BK135);(try clear BK139);(try clear HB);clear hW_;revert n0_ n1_ n2_;intro BK135 BK139 HB;replace BK135:=am (blk_drew BK135.out);replace BK139:=am (blk_drew BK139.out);replace HB:=am (below_drew1 HB.out);have p140:0≤((ji58):Int):=da;have q140:(ji58)<(l0_3.length:Int):=da;obtain ⟨ad140,e140,hx140_0,hx140_1,hx140_2,hx140_3⟩:=at_T32 HR0_3.out (ji58) p140 q140;have hw140_3:=hx140_3;have hw140_2:=hx140_2;have hw140_1:=hx140_1;have hw140_0:=hx140_0;obtain rfl:ad138=ad140:=(by injection e140);replace hx140_0:=lx (bw HB.out) hx140_0;replace hx140_1:=lx (bw HB.out) hx140_1;replace hx140_2:=lx (bw HB.out) hx140_2;replace hx140_3:=lx (bw HB.out) hx140_3;replace p140:=eq_true p140;replace q140:=eq_true q140;refine start_ (n:=57) (S:=fun w'=>w'.cell? ⟨gb139,0,none⟩=some (.int .i64 ((rd_T32 l0_3 x38_2).f0))∧w'.cell? ⟨gb139,1,none⟩=some (.string ((rd_T32 l0_3 x38_2).f1))∧w'.cell? ⟨gb139,2,none⟩=some (.int .i64 ((rd_T32 l0_3 x38_2).f2))∧w'.cell? ⟨gb139,3,none⟩=some (.int .i64 ((rd_T32 l0_3 x38_2).f3))∧w'.cell? ⟨gb135,0,none⟩=some (.int .i64 a0_0)∧w'.cell? ⟨gb135,1,none⟩=some (.slice A0_1 l0_1.length c0_1)∧w'.cell? ⟨gb135,2,none⟩=some (.slice A0_2 l0_2.length c0_2)∧w'.cell? ⟨gb135,3,none⟩=some (.slice (some ad138) l0_3.length c0_3)∧w'.cell? (ad138.add (((ji58)).toNat*4))=some (.int .i64 ((rd_T32 l0_3 (ji58)).f0))∧w'.cell? ⟨(ad138.add (((ji58)).toNat*4)).block,(ad138.add (((ji58)).toNat*4)).off+1,none⟩=some (.string ((rd_T32 l0_3 (ji58)).f1))∧w'.cell? ⟨(ad138.add (((ji58)).toNat*4)).block,(ad138.add (((ji58)).toNat*4)).off+2,none⟩=some (.int .i64 ((rd_T32 l0_3 (ji58)).f2))∧w'.cell? ⟨(ad138.add (((ji58)).toNat*4)).block,(ad138.add (((ji58)).toNat*4)).off+3,none⟩=some (.int .i64 ((rd_T32 l0_3 (ji58)).f3))) (ds:=[]) (mkp 57 0) (by kernel_rfl) rfl rfl ⟨bl BK139.out 0,bl BK139.out 1,bl BK139.out 2,bl BK139.out 3,bl BK135.out 0,bl BK135.out 1,bl BK135.out 2,bl BK135.out 3,(lx (bw HB.out) hw140_0),(lx (bw HB.out) hw140_1),(lx (bw HB.out) hw140_2),(lx (bw HB.out) hw140_3)⟩ (fun hHeld=> ?_);refine with_tabW impl_AutomatonValid.tab6 impl_AutomatonValid.bits6 (fun HT_ HW_=> ?_);generalize w72.drew=w73 at BK135 BK139 HB hx140_0 hx140_1 hx140_2 hx140_3 hHeld ⊢;(iterate 5 (first|refine qv HT_ ?_|refine tk HT_ HW_ hHeld ?_));refine pv 6 49 57 95 HT_ ?_;refine tkm 5 48 (mkp 57 7) HT_ HW_ hHeld ?_;(iterate 10 (first|refine qv HT_ ?_|refine tk HT_ HW_ hHeld ?_));refine pv 18 61 57 393215 HT_ ?_;refine tkm 17 60 (mkp 57 19) HT_ HW_ hHeld ?_;(iterate 28 (first|refine qu HT_ ?_|refine qv HT_ ?_|refine tk HT_ HW_ hHeld ?_));refine pv 48 91 57 422212465065983 HT_ ?_;refine pv 49 92 57 985162418487295 HT_ ?_;refine tkm 47 90 (mkp 57 50) HT_ HW_ hHeld ?_;(iterate 3 (first|refine qv HT_ ?_|refine tk HT_ HW_ hHeld ?_));refine on 53 (mkp 57 54) HT_ (fun K hK=> ?_);refine goes_ Try.func61 (by kernel_rfl) rfl #[.agg #[.int .i64 ((rd_T32 l0_3 (ji58)).f0), .string ((rd_T32 l0_3 (ji58)).f1), .int .i64 ((rd_T32 l0_3 (ji58)).f2), .int .i64 ((rd_T32 l0_3 (ji58)).f3)], .agg #[.int .i64 ((rd_T32 l0_3 x38_2).f0), .string ((rd_T32 l0_3 x38_2).f1), .int .i64 ((rd_T32 l0_3 x38_2).f2), .int .i64 ((rd_T32 l0_3 x38_2).f3)]] (by rfl) rfl rfl (by (try simp only [List.map_toArray,List.map_cons,List.map_nil]);first|done|(simp only [hji58];rfl)|rfl|(simp only [List.length_drop,List.length_take];rfl)) ?_
                    with_reducible refine (impl_stepOrder.calls k2 ((rd_T32 l0_3 (ji58)).f0) ((rd_T32 l0_3 (ji58)).f1) ((rd_T32 l0_3 (ji58)).f2) ((rd_T32 l0_3 (ji58)).f3) ((rd_T32 l0_3 x38_2).f0) ((rd_T32 l0_3 x38_2).f1) ((rd_T32 l0_3 x38_2).f2) ((rd_T32 l0_3 x38_2).f3) t141 _ A61.out).mono ?_
                    rintro e w74 ⟨rfl,hb⟩;refine ⟨_,rfl,?_⟩;replace BK135:=bk BK135 hb;replace BK139:=bk BK139 hb;replace HB:=hs HB hb;(try clear hb);refine hK.out _ _ ⟨bl BK139.out 0,bl BK139.out 1,bl BK139.out 2,bl BK139.out 3,bl BK135.out 0,bl BK135.out 1,bl BK135.out 2,bl BK135.out 3,(lx (bw HB.out) hw140_0),(lx (bw HB.out) hw140_1),(lx (bw HB.out) hw140_2),(lx (bw HB.out) hw140_3)⟩ (fun hHeld=> ?_);clear hK K;refine norm_ (a':= ?_) ?_ ?_;rotate_left
                    ·show Act.put _ (some 96) _=_;simp only [Act.put,List.setIfInBounds_toArray,List.set_cons_zero,List.set_cons_succ,i64_w,i32_w];rfl
                    (iterate 3 refine qv HT_ ?_);refine done_ (done_of HT_.out (by kernel_rfl)) ?_;(try go_wp2);go_roundg k2
                    case measure=>have:=HJ1.out;have:=HK2.out;omega
                    case rel=>exact ⟨(wrap64 (x38_2+1)),(by first|rfl|(simp;done)|(simp [*];done)),H',⟨by have:=HJ1.out;have:=HK2.out;omega⟩,⟨kz BK135.out⟩,⟨by exact bw HB.out⟩⟩
                  ·rw [if_neg c60] at H;exact absurd H (by simp)
                 ·rw [if_neg c59] at H;exact absurd H (by simp)
                ·rw [if_neg c57] at H;have c57b0:decide (0<x38_2)=false:=decide_eq_false c57;clear c57;have H':=am H;clear H;have p138:0≤(x38_2:Int):=da;have q138:x38_2<(l0_3.length:Int):=da;obtain ⟨ad138,e138,hx138_0,hx138_1,hx138_2,hx138_3⟩:=at_T32 HR0_3.out x38_2 p138 q138;cases e138;replace hx138_0:=lx (bw HB.out) hx138_0;replace hx138_1:=lx (bw HB.out) hx138_1;replace hx138_2:=lx (bw HB.out) hx138_2;replace hx138_3:=lx (bw HB.out) hx138_3;replace p138:=eq_true p138;replace q138:=eq_true q138;(try go_wp2_with (first|((with_reducible refine gx 4 rfl ?_);(try (refine gate_guard (by rfl) ?_;dsimp only));refine be (cs:= #[.int .i64 0, .string (⟨#[]⟩:ByteArray), .int .i64 0, .int .i64 0]) (t:=32) ?_;intro gb139 hg w75 hbox hb;have BK139:=am (hbox);have GW139:=gs hg (bw HB.out);have GE139:=gs hg (bw HB.out);replace HB:=hs HB hb;have NB135_139:=nl hg (kz BK135.out);have NB139_135:=nr hg (kz BK135.out);replace BK135:=bk BK135 hb;clear hb hbox hg;have hnb76:=NB139_135.out;have hnc76:=NB135_139.out;have hz77:=zf4 BK139.out)));generalize hW_:((((w75.setCell ⟨gb139,0,none⟩ (.int .i64 ((rd_T32 l0_3 x38_2).f0))).setCell ⟨gb139,1,none⟩ (.string ((rd_T32 l0_3 x38_2).f1))).setCell ⟨gb139,2,none⟩ (.int .i64 ((rd_T32 l0_3 x38_2).f2))).setCell ⟨gb139,3,none⟩ (.int .i64 ((rd_T32 l0_3 x38_2).f3)))=w78;have n0_:Aside0 (w78.heap[gb135]? =some (.cells #[.int .i64 a0_0, .slice A0_1 l0_1.length c0_1, .slice A0_2 l0_2.length c0_2, .slice (some ad138) l0_3.length c0_3] 26 (0,0))):=⟨by rw [←hW_];exact kp BK135.out⟩;have n1_:Aside0 (w78.heap[gb139]? =some (.cells #[.int .i64 ((rd_T32 l0_3 x38_2).f0), .string ((rd_T32 l0_3 x38_2).f1), .int .i64 ((rd_T32 l0_3 x38_2).f2), .int .i64 ((rd_T32 l0_3 x38_2).f3)] 32 (0,0))):=⟨by rw [←hW_];exact kp BK139.out⟩;have n2_:Aside0 (Below w.heap.size w w78):=⟨by rw [←hW_];exact bw HB.out⟩;(try clear BK135);(try clear BK139);(try clear HB);clear hW_;revert n0_ n1_ n2_;intro BK135 BK139 HB;replace BK135:=am (blk_drew BK135.out);replace BK139:=am (blk_drew BK139.out);replace HB:=am (below_drew1 HB.out);refine start_ (n:=57) (S:=fun w'=>w'.cell? ⟨gb139,0,none⟩=some (.int .i64 ((rd_T32 l0_3 x38_2).f0))∧w'.cell? ⟨gb139,1,none⟩=some (.string ((rd_T32 l0_3 x38_2).f1))∧w'.cell? ⟨gb139,2,none⟩=some (.int .i64 ((rd_T32 l0_3 x38_2).f2))∧w'.cell? ⟨gb139,3,none⟩=some (.int .i64 ((rd_T32 l0_3 x38_2).f3))∧w'.cell? ⟨gb135,0,none⟩=some (.int .i64 a0_0)∧w'.cell? ⟨gb135,1,none⟩=some (.slice A0_1 l0_1.length c0_1)∧w'.cell? ⟨gb135,2,none⟩=some (.slice A0_2 l0_2.length c0_2)∧w'.cell? ⟨gb135,3,none⟩=some (.slice (some ad138) l0_3.length c0_3)) (ds:=[]) (mkp 57 0) (by kernel_rfl) rfl rfl (b4 BK139 (b4e BK135)) (fun hHeld=> ?_);refine with_tabW impl_AutomatonValid.tab6 impl_AutomatonValid.bits6 (fun HT_ HW_=> ?_);generalize w78.drew=w79 at BK135 BK139 HB hHeld ⊢;(iterate 5 (first|refine qv HT_ ?_|refine tk HT_ HW_ hHeld ?_));refine pv 6 49 57 95 HT_ ?_;refine tkm 5 48 (mkp 57 7) HT_ HW_ hHeld ?_;(iterate 10 (first|refine qv HT_ ?_|refine tk HT_ HW_ hHeld ?_));refine pv 18 61 57 393215 HT_ ?_;refine tkm 17 60 (mkp 57 19) HT_ HW_ hHeld ?_;(iterate 38 (first|refine qu HT_ ?_|refine qv HT_ ?_|refine tk HT_ HW_ hHeld ?_));refine done_ (done_of HT_.out (by kernel_rfl)) ?_;(try go_wp2);go_roundg k2
                 case measure=>have:=HJ1.out;have:=HK2.out;omega
                 case rel=>exact ⟨(wrap64 (x38_2+1)),(by first|rfl|(simp;done)|(simp [*];done)),H',⟨by have:=HJ1.out;have:=HK2.out;omega⟩,⟨kz BK135.out⟩,⟨by exact bw HB.out⟩⟩
             ·rw [if_neg c44] at H;have c44b0:(((rd_T32 l0_3 x38_2).f1).toList==([97]:List UInt8))=false:=beq_eq_false_iff_ne.mpr c44;have c44b1:(((rd_T32 l0_3 x38_2).f1).toList != ([97]:List UInt8))=true:=bne_iff_ne.mpr c44;by_cases c80:((rd_T32 l0_3 x38_2).f1).toList=([98]:List UInt8)
              ·rw [if_pos c80] at H;have c80b0:(((rd_T32 l0_3 x38_2).f1).toList==([98]:List UInt8))=true:=beq_iff_eq.mpr c80;have c80b1:(((rd_T32 l0_3 x38_2).f1).toList != ([98]:List UInt8))=false:=bne_eq_false_iff_eq.mpr c80;clear c80;by_cases c81:((rd_T32 l0_3 x38_2).f3)<0
               ·rw [if_pos c81] at H;have c81b0:=decide_eq_true c81;clear c81;obtain rfl:=Option.some.inj H;have p138:0≤(x38_2:Int):=da;have q138:x38_2<(l0_3.length:Int):=da;obtain ⟨ad138,e138,hx138_0,hx138_1,hx138_2,hx138_3⟩:=at_T32 HR0_3.out x38_2 p138 q138;cases e138;replace hx138_0:=lx (bw HB.out) hx138_0;replace hx138_1:=lx (bw HB.out) hx138_1;replace hx138_2:=lx (bw HB.out) hx138_2;replace hx138_3:=lx (bw HB.out) hx138_3;replace p138:=eq_true p138;replace q138:=eq_true q138;(try go_wp2_with (first|((with_reducible refine gx 4 rfl ?_);(try (refine gate_guard (by rfl) ?_;dsimp only));refine be (cs:= #[.int .i64 0, .string (⟨#[]⟩:ByteArray), .int .i64 0, .int .i64 0]) (t:=32) ?_;intro gb139 hg w82 hbox hb;have BK139:=am (hbox);have GW139:=gs hg (bw HB.out);have GE139:=gs hg (bw HB.out);replace HB:=hs HB hb;have NB135_139:=nl hg (kz BK135.out);have NB139_135:=nr hg (kz BK135.out);replace BK135:=bk BK135 hb;clear hb hbox hg;have hnb83:=NB139_135.out;have hnc83:=NB135_139.out;have hz84:=zf4 BK139.out)));generalize hW_:((((w82.setCell ⟨gb139,0,none⟩ (.int .i64 ((rd_T32 l0_3 x38_2).f0))).setCell ⟨gb139,1,none⟩ (.string ((rd_T32 l0_3 x38_2).f1))).setCell ⟨gb139,2,none⟩ (.int .i64 ((rd_T32 l0_3 x38_2).f2))).setCell ⟨gb139,3,none⟩ (.int .i64 ((rd_T32 l0_3 x38_2).f3)))=w85;have n0_:Aside0 (w85.heap[gb135]? =some (.cells #[.int .i64 a0_0, .slice A0_1 l0_1.length c0_1, .slice A0_2 l0_2.length c0_2, .slice (some ad138) l0_3.length c0_3] 26 (0,0))):=⟨by rw [←hW_];exact kp BK135.out⟩;have n1_:Aside0 (w85.heap[gb139]? =some (.cells #[.int .i64 ((rd_T32 l0_3 x38_2).f0), .string ((rd_T32 l0_3 x38_2).f1), .int .i64 ((rd_T32 l0_3 x38_2).f2), .int .i64 ((rd_T32 l0_3 x38_2).f3)] 32 (0,0))):=⟨by rw [←hW_];exact kp BK139.out⟩;have n2_:Aside0 (Below w.heap.size w w85):=⟨by rw [←hW_];exact bw HB.out⟩;(try clear BK135);(try clear BK139);(try clear HB);clear hW_;revert n0_ n1_ n2_;intro BK135 BK139 HB;replace BK135:=am (blk_drew BK135.out);replace BK139:=am (blk_drew BK139.out);replace HB:=am (below_drew1 HB.out);refine start_ (n:=57) (S:=fun w'=>w'.cell? ⟨gb139,0,none⟩=some (.int .i64 ((rd_T32 l0_3 x38_2).f0))∧w'.cell? ⟨gb139,1,none⟩=some (.string ((rd_T32 l0_3 x38_2).f1))∧w'.cell? ⟨gb139,2,none⟩=some (.int .i64 ((rd_T32 l0_3 x38_2).f2))∧w'.cell? ⟨gb139,3,none⟩=some (.int .i64 ((rd_T32 l0_3 x38_2).f3))∧w'.cell? ⟨gb135,0,none⟩=some (.int .i64 a0_0)∧w'.cell? ⟨gb135,1,none⟩=some (.slice A0_1 l0_1.length c0_1)∧w'.cell? ⟨gb135,2,none⟩=some (.slice A0_2 l0_2.length c0_2)∧w'.cell? ⟨gb135,3,none⟩=some (.slice (some ad138) l0_3.length c0_3)) (ds:=[]) (mkp 57 0) (by kernel_rfl) rfl rfl (b4 BK139 (b4e BK135)) (fun hHeld=> ?_);refine with_tabW impl_AutomatonValid.tab6 impl_AutomatonValid.bits6 (fun HT_ HW_=> ?_);generalize w85.drew=w86 at BK135 BK139 HB hHeld ⊢;(iterate 5 (first|refine qv HT_ ?_|refine tk HT_ HW_ hHeld ?_));refine pv 6 49 57 95 HT_ ?_;refine tkm 5 48 (mkp 57 7) HT_ HW_ hHeld ?_;(iterate 10 (first|refine qv HT_ ?_|refine tk HT_ HW_ hHeld ?_));refine pv 18 61 57 393215 HT_ ?_;refine tkm 17 60 (mkp 57 19) HT_ HW_ hHeld ?_;(iterate 38 (first|refine qu HT_ ?_|refine qv HT_ ?_|refine tk HT_ HW_ hHeld ?_));refine done_ (done_of HT_.out (by kernel_rfl)) ?_;(try go_wp2);go_ret;exact ⟨by first|rfl|(simp [errW_none,errW_some]<;> rfl)|(simp [*,errW_none,errW_some]<;> rfl),by exact bw HB.out⟩
               ·rw [if_neg c81] at H;have c81b0:=decide_eq_false c81;clear c81;by_cases c87:((rd_T32 l0_3 x38_2).f3)>3
                ·rw [if_pos c87] at H;have c87b0:decide (3<((rd_T32 l0_3 x38_2).f3))=true:=decide_eq_true c87;clear c87;obtain rfl:=Option.some.inj H;have p138:0≤(x38_2:Int):=da;have q138:x38_2<(l0_3.length:Int):=da;obtain ⟨ad138,e138,hx138_0,hx138_1,hx138_2,hx138_3⟩:=at_T32 HR0_3.out x38_2 p138 q138;cases e138;replace hx138_0:=lx (bw HB.out) hx138_0;replace hx138_1:=lx (bw HB.out) hx138_1;replace hx138_2:=lx (bw HB.out) hx138_2;replace hx138_3:=lx (bw HB.out) hx138_3;replace p138:=eq_true p138;replace q138:=eq_true q138;(try go_wp2_with (first|((with_reducible refine gx 4 rfl ?_);(try (refine gate_guard (by rfl) ?_;dsimp only));refine be (cs:= #[.int .i64 0, .string (⟨#[]⟩:ByteArray), .int .i64 0, .int .i64 0]) (t:=32) ?_;intro gb139 hg w88 hbox hb;have BK139:=am (hbox);have GW139:=gs hg (bw HB.out);have GE139:=gs hg (bw HB.out);replace HB:=hs HB hb;have NB135_139:=nl hg (kz BK135.out);have NB139_135:=nr hg (kz BK135.out);replace BK135:=bk BK135 hb;clear hb hbox hg;have hnb89:=NB139_135.out;have hnc89:=NB135_139.out;have hz90:=zf4 BK139.out)));generalize hW_:((((w88.setCell ⟨gb139,0,none⟩ (.int .i64 ((rd_T32 l0_3 x38_2).f0))).setCell ⟨gb139,1,none⟩ (.string ((rd_T32 l0_3 x38_2).f1))).setCell ⟨gb139,2,none⟩ (.int .i64 ((rd_T32 l0_3 x38_2).f2))).setCell ⟨gb139,3,none⟩ (.int .i64 ((rd_T32 l0_3 x38_2).f3)))=w91;have n0_:Aside0 (w91.heap[gb135]? =some (.cells #[.int .i64 a0_0, .slice A0_1 l0_1.length c0_1, .slice A0_2 l0_2.length c0_2, .slice (some ad138) l0_3.length c0_3] 26 (0,0))):=⟨by rw [←hW_];exact kp BK135.out⟩;have n1_:Aside0 (w91.heap[gb139]? =some (.cells #[.int .i64 ((rd_T32 l0_3 x38_2).f0), .string ((rd_T32 l0_3 x38_2).f1), .int .i64 ((rd_T32 l0_3 x38_2).f2), .int .i64 ((rd_T32 l0_3 x38_2).f3)] 32 (0,0))):=⟨by rw [←hW_];exact kp BK139.out⟩;have n2_:Aside0 (Below w.heap.size w w91):=⟨by rw [←hW_];exact bw HB.out⟩;(try clear BK135);(try clear BK139);(try clear HB);clear hW_;revert n0_ n1_ n2_;intro BK135 BK139 HB;replace BK135:=am (blk_drew BK135.out);replace BK139:=am (blk_drew BK139.out);replace HB:=am (below_drew1 HB.out);refine start_ (n:=57) (S:=fun w'=>w'.cell? ⟨gb139,0,none⟩=some (.int .i64 ((rd_T32 l0_3 x38_2).f0))∧w'.cell? ⟨gb139,1,none⟩=some (.string ((rd_T32 l0_3 x38_2).f1))∧w'.cell? ⟨gb139,2,none⟩=some (.int .i64 ((rd_T32 l0_3 x38_2).f2))∧w'.cell? ⟨gb139,3,none⟩=some (.int .i64 ((rd_T32 l0_3 x38_2).f3))∧w'.cell? ⟨gb135,0,none⟩=some (.int .i64 a0_0)∧w'.cell? ⟨gb135,1,none⟩=some (.slice A0_1 l0_1.length c0_1)∧w'.cell? ⟨gb135,2,none⟩=some (.slice A0_2 l0_2.length c0_2)∧w'.cell? ⟨gb135,3,none⟩=some (.slice (some ad138) l0_3.length c0_3)) (ds:=[]) (mkp 57 0) (by kernel_rfl) rfl rfl (b4 BK139 (b4e BK135)) (fun hHeld=> ?_);refine with_tabW impl_AutomatonValid.tab6 impl_AutomatonValid.bits6 (fun HT_ HW_=> ?_);generalize w91.drew=w92 at BK135 BK139 HB hHeld ⊢;(iterate 5 (first|refine qv HT_ ?_|refine tk HT_ HW_ hHeld ?_));refine pv 6 49 57 95 HT_ ?_;refine tkm 5 48 (mkp 57 7) HT_ HW_ hHeld ?_;(iterate 10 (first|refine qv HT_ ?_|refine tk HT_ HW_ hHeld ?_));refine pv 18 61 57 393215 HT_ ?_;refine tkm 17 60 (mkp 57 19) HT_ HW_ hHeld ?_;(iterate 38 (first|refine qu HT_ ?_|refine qv HT_ ?_|refine tk HT_ HW_ hHeld ?_));refine done_ (done_of HT_.out (by kernel_rfl)) ?_;(try go_wp2);go_ret;exact ⟨by first|rfl|(simp [errW_none,errW_some]<;> rfl)|(simp [*,errW_none,errW_some]<;> rfl),by exact bw HB.out⟩
                ·rw [if_neg c87] at H;have c87b0:decide (3<((rd_T32 l0_3 x38_2).f3))=false:=decide_eq_false c87;clear c87;by_cases c93:x38_2>0
                 ·rw [if_pos c93] at H;have c93b0:decide (0<x38_2)=true:=decide_eq_true c93;clear c93;obtain ⟨ji94,hji94⟩:∃j_:Int,(wrap64 (x38_2 - 1))=j_:=⟨_,rfl⟩
                  replace H:(if 0≤(ji94) then (if (ji94)<(l0_3.length:Int) then ((impl_stepOrder.f k2 ((rd_T32 l0_3 (ji94)).f0) ((rd_T32 l0_3 (ji94)).f1) ((rd_T32 l0_3 (ji94)).f2) ((rd_T32 l0_3 (ji94)).f3) ((rd_T32 l0_3 x38_2).f0) ((rd_T32 l0_3 x38_2).f1) ((rd_T32 l0_3 x38_2).f2) ((rd_T32 l0_3 x38_2).f3)).bind fun t143=>(if t143≥0 then (some false) else (impl_AutomatonValid.l0 k2 l0_3 (l0_3.length:Int) (wrap64 (x38_2+1)) a0_0 l0_1 l0_2 l0_3))) else (none)) else (none))=some r:=by first|(rw [hji94] at H;exact H)|(simp only [hji94] at H ⊢;exact H)
                  have hji94w:(IntKind.i64.wrap (x38_2 - 1))=ji94:=(i64_w _).trans hji94;by_cases c95:0≤(ji94)
                  ·rw [if_pos c95] at H;have c95b0:=decide_eq_true c95;clear c95;by_cases c96:(ji94)<(l0_3.length:Int)
                   ·rw [if_pos c96] at H;have c96b0:=decide_eq_true c96;clear c96;obtain ⟨t143,A97,H⟩:=bO H;(try dsimp only at H);by_cases c98:t143≥0
                    ·rw [if_pos c98] at H;have c98b0:decide (0≤t143)=true:=decide_eq_true c98;clear c98;obtain rfl:=Option.some.inj H;have p138:0≤(x38_2:Int):=da;have q138:x38_2<(l0_3.length:Int):=da;obtain ⟨ad138,e138,hx138_0,hx138_1,hx138_2,hx138_3⟩:=at_T32 HR0_3.out x38_2 p138 q138;cases e138;replace hx138_0:=lx (bw HB.out) hx138_0;replace hx138_1:=lx (bw HB.out) hx138_1;replace hx138_2:=lx (bw HB.out) hx138_2;replace hx138_3:=lx (bw HB.out) hx138_3;replace p138:=eq_true p138;replace q138:=eq_true q138;(try go_wp2_with (first|((with_reducible refine gx 4 rfl ?_);(try (refine gate_guard (by rfl) ?_;dsimp only));refine be (cs:= #[.int .i64 0, .string (⟨#[]⟩:ByteArray), .int .i64 0, .int .i64 0]) (t:=32) ?_;intro gb139 hg w99 hbox hb;have BK139:=am (hbox);have GW139:=gs hg (bw HB.out);have GE139:=gs hg (bw HB.out);replace HB:=hs HB hb;have NB135_139:=nl hg (kz BK135.out);have NB139_135:=nr hg (kz BK135.out);replace BK135:=bk BK135 hb;clear hb hbox hg;have hnb100:=NB139_135.out;have hnc100:=NB135_139.out;have hz101:=zf4 BK139.out)));generalize hW_:((((w99.setCell ⟨gb139,0,none⟩ (.int .i64 ((rd_T32 l0_3 x38_2).f0))).setCell ⟨gb139,1,none⟩ (.string ((rd_T32 l0_3 x38_2).f1))).setCell ⟨gb139,2,none⟩ (.int .i64 ((rd_T32 l0_3 x38_2).f2))).setCell ⟨gb139,3,none⟩ (.int .i64 ((rd_T32 l0_3 x38_2).f3)))=w102;have n0_:Aside0 (w102.heap[gb135]? =some (.cells #[.int .i64 a0_0, .slice A0_1 l0_1.length c0_1, .slice A0_2 l0_2.length c0_2, .slice (some ad138) l0_3.length c0_3] 26 (0,0))):=⟨by rw [←hW_];exact kp BK135.out⟩;have n1_:Aside0 (w102.heap[gb139]? =some (.cells #[.int .i64 ((rd_T32 l0_3 x38_2).f0), .string ((rd_T32 l0_3 x38_2).f1), .int .i64 ((rd_T32 l0_3 x38_2).f2), .int .i64 ((rd_T32 l0_3 x38_2).f3)] 32 (0,0))):=⟨by rw [←hW_];exact kp BK139.out⟩;have n2_:Aside0 (Below w.heap.size w w102):=⟨by rw [←hW_];exact bw HB.out⟩;(try clear BK135);(try clear BK139);(try clear HB);clear hW_;revert n0_ n1_ n2_;intro BK135 BK139 HB;replace BK135:=am (blk_drew BK135.out);replace BK139:=am (blk_drew BK139.out);replace HB:=am (below_drew1 HB.out);have p142:0≤((ji94):Int):=da;have q142:(ji94)<(l0_3.length:Int):=da;obtain ⟨ad142,e142,hx142_0,hx142_1,hx142_2,hx142_3⟩:=at_T32 HR0_3.out (ji94) p142 q142;have hw142_3:=hx142_3;have hw142_2:=hx142_2;have hw142_1:=hx142_1;have hw142_0:=hx142_0;obtain rfl:ad138=ad142:=(by injection e142);replace hx142_0:=lx (bw HB.out) hx142_0;replace hx142_1:=lx (bw HB.out) hx142_1;replace hx142_2:=lx (bw HB.out) hx142_2;replace hx142_3:=lx (bw HB.out) hx142_3;replace p142:=eq_true p142;replace q142:=eq_true q142;refine start_ (n:=57) (S:=fun w'=>w'.cell? ⟨gb139,0,none⟩=some (.int .i64 ((rd_T32 l0_3 x38_2).f0))∧w'.cell? ⟨gb139,1,none⟩=some (.string ((rd_T32 l0_3 x38_2).f1))∧w'.cell? ⟨gb139,2,none⟩=some (.int .i64 ((rd_T32 l0_3 x38_2).f2))∧w'.cell? ⟨gb139,3,none⟩=some (.int .i64 ((rd_T32 l0_3 x38_2).f3))∧w'.cell? ⟨gb135,0,none⟩=some (.int .i64 a0_0)∧w'.cell? ⟨gb135,1,none⟩=some (.slice A0_1 l0_1.length c0_1)∧w'.cell? ⟨gb135,2,none⟩=some (.slice A0_2 l0_2.length c0_2)∧w'.cell? ⟨gb135,3,none⟩=some (.slice (some ad138) l0_3.length c0_3)∧w'.cell? (ad138.add (((ji94)).toNat*4))=some (.int .i64 ((rd_T32 l0_3 (ji94)).f0))∧w'.cell? ⟨(ad138.add (((ji94)).toNat*4)).block,(ad138.add (((ji94)).toNat*4)).off+1,none⟩=some (.string ((rd_T32 l0_3 (ji94)).f1))∧w'.cell? ⟨(ad138.add (((ji94)).toNat*4)).block,(ad138.add (((ji94)).toNat*4)).off+2,none⟩=some (.int .i64 ((rd_T32 l0_3 (ji94)).f2))∧w'.cell? ⟨(ad138.add (((ji94)).toNat*4)).block,(ad138.add (((ji94)).toNat*4)).off+3,none⟩=some (.int .i64 ((rd_T32 l0_3 (ji94)).f3))) (ds:=[]) (mkp 57 0) (by kernel_rfl) rfl rfl ⟨bl BK139.out 0,bl BK139.out 1,bl BK139.out 2,bl BK139.out 3,bl BK135.out 0,bl BK135.out 1,bl BK135.out 2,bl BK135.out 3,(lx (bw HB.out) hw142_0),(lx (bw HB.out) hw142_1),(lx (bw HB.out) hw142_2),(lx (bw HB.out) hw142_3)⟩ (fun hHeld=> ?_);refine with_tabW impl_AutomatonValid.tab6 impl_AutomatonValid.bits6 (fun HT_ HW_=> ?_);generalize w102.drew=w103 at BK135 BK139 HB hx142_0 hx142_1 hx142_2 hx142_3 hHeld ⊢;(iterate 5 (first|refine qv HT_ ?_|refine tk HT_ HW_ hHeld ?_));refine pv 6 49 57 95 HT_ ?_;refine tkm 5 48 (mkp 57 7) HT_ HW_ hHeld ?_;(iterate 10 (first|refine qv HT_ ?_|refine tk HT_ HW_ hHeld ?_));refine pv 18 61 57 393215 HT_ ?_;refine tkm 17 60 (mkp 57 19) HT_ HW_ hHeld ?_;(iterate 28 (first|refine qv HT_ ?_|refine tk HT_ HW_ hHeld ?_));refine pv 48 91 57 422212465065983 HT_ ?_;refine pv 49 92 57 985162418487295 HT_ ?_;refine tkm 47 90 (mkp 57 50) HT_ HW_ hHeld ?_;(iterate 3 (first|refine qv HT_ ?_|refine tk HT_ HW_ hHeld ?_));refine on 53 (mkp 57 54) HT_ (fun K hK=> ?_);refine goes_ Try.func61 (by kernel_rfl) rfl #[.agg #[.int .i64 ((rd_T32 l0_3 (ji94)).f0), .string ((rd_T32 l0_3 (ji94)).f1), .int .i64 ((rd_T32 l0_3 (ji94)).f2), .int .i64 ((rd_T32 l0_3 (ji94)).f3)], .agg #[.int .i64 ((rd_T32 l0_3 x38_2).f0), .string ((rd_T32 l0_3 x38_2).f1), .int .i64 ((rd_T32 l0_3 x38_2).f2), .int .i64 ((rd_T32 l0_3 x38_2).f3)]] (by rfl) rfl rfl (by (try simp only [List.map_toArray,List.map_cons,List.map_nil]);first|done|(simp only [hji94];rfl)|rfl|(simp only [List.length_drop,List.length_take];rfl)) ?_
                     with_reducible refine (impl_stepOrder.calls k2 ((rd_T32 l0_3 (ji94)).f0) ((rd_T32 l0_3 (ji94)).f1) ((rd_T32 l0_3 (ji94)).f2) ((rd_T32 l0_3 (ji94)).f3) ((rd_T32 l0_3 x38_2).f0) ((rd_T32 l0_3 x38_2).f1) ((rd_T32 l0_3 x38_2).f2) ((rd_T32 l0_3 x38_2).f3) t143 _ A97.out).mono ?_
                     rintro e w104 ⟨rfl,hb⟩;refine ⟨_,rfl,?_⟩;replace BK135:=bk BK135 hb;replace BK139:=bk BK139 hb;replace HB:=hs HB hb;(try clear hb);refine hK.out _ _ ⟨bl BK139.out 0,bl BK139.out 1,bl BK139.out 2,bl BK139.out 3,bl BK135.out 0,bl BK135.out 1,bl BK135.out 2,bl BK135.out 3,(lx (bw HB.out) hw142_0),(lx (bw HB.out) hw142_1),(lx (bw HB.out) hw142_2),(lx (bw HB.out) hw142_3)⟩ (fun hHeld=> ?_);clear hK K;refine norm_ (a':= ?_) ?_ ?_;rotate_left
                     ·show Act.put _ (some 96) _=_;simp only [Act.put,List.setIfInBounds_toArray,List.set_cons_zero,List.set_cons_succ,i64_w,i32_w];rfl
                     (iterate 3 refine qv HT_ ?_);refine done_ (done_of HT_.out (by kernel_rfl)) ?_;(try go_wp2);go_ret;exact ⟨by first|rfl|(simp [errW_none,errW_some]<;> rfl)|(simp only [←hji94];first|rfl|(simp [errW_none,errW_some]<;> rfl))|(simp [*,errW_none,errW_some]<;> rfl),by exact bw HB.out⟩
                    ·rw [if_neg c98] at H;have c98b0:decide (0≤t143)=false:=decide_eq_false c98;clear c98;have H':=am H;clear H;have p138:0≤(x38_2:Int):=da;have q138:x38_2<(l0_3.length:Int):=da;obtain ⟨ad138,e138,hx138_0,hx138_1,hx138_2,hx138_3⟩:=at_T32 HR0_3.out x38_2 p138 q138;cases e138;replace hx138_0:=lx (bw HB.out) hx138_0;replace hx138_1:=lx (bw HB.out) hx138_1;replace hx138_2:=lx (bw HB.out) hx138_2;replace hx138_3:=lx (bw HB.out) hx138_3;replace p138:=eq_true p138;replace q138:=eq_true q138;(try go_wp2_with (first|((with_reducible refine gx 4 rfl ?_);(try (refine gate_guard (by rfl) ?_;dsimp only));refine be (cs:= #[.int .i64 0, .string (⟨#[]⟩:ByteArray), .int .i64 0, .int .i64 0]) (t:=32) ?_;intro gb139 hg w105 hbox hb;have BK139:=am (hbox);have GW139:=gs hg (bw HB.out);have GE139:=gs hg (bw HB.out);replace HB:=hs HB hb;have NB135_139:=nl hg (kz BK135.out);have NB139_135:=nr hg (kz BK135.out);replace BK135:=bk BK135 hb;clear hb hbox hg;have hnb106:=NB139_135.out;have hnc106:=NB135_139.out;have hz107:=zf4 BK139.out)));generalize hW_:((((w105.setCell ⟨gb139,0,none⟩ (.int .i64 ((rd_T32 l0_3 x38_2).f0))).setCell ⟨gb139,1,none⟩ (.string ((rd_T32 l0_3 x38_2).f1))).setCell ⟨gb139,2,none⟩ (.int .i64 ((rd_T32 l0_3 x38_2).f2))).setCell ⟨gb139,3,none⟩ (.int .i64 ((rd_T32 l0_3 x38_2).f3)))=w108;have n0_:Aside0 (w108.heap[gb135]? =some (.cells #[.int .i64 a0_0, .slice A0_1 l0_1.length c0_1, .slice A0_2 l0_2.length c0_2, .slice (some ad138) l0_3.length c0_3] 26 (0,0))):=⟨by rw [←hW_];exact kp BK135.out⟩;have n1_:Aside0 (w108.heap[gb139]? =some (.cells #[.int .i64 ((rd_T32 l0_3 x38_2).f0), .string ((rd_T32 l0_3 x38_2).f1), .int .i64 ((rd_T32 l0_3 x38_2).f2), .int .i64 ((rd_T32 l0_3 x38_2).f3)] 32 (0,0))):=⟨by rw [←hW_];exact kp BK139.out⟩;have n2_:Aside0 (Below w.heap.size w w108):=⟨by rw [←hW_];exact bw HB.out⟩;(try clear BK135);(try clear BK139);(try clear HB);clear hW_;revert n0_ n1_ n2_;intro BK135 BK139 HB;replace BK135:=am (blk_drew BK135.out);replace BK139:=am (blk_drew BK139.out);replace HB:=am (below_drew1 HB.out);have p142:0≤((ji94):Int):=da;have q142:(ji94)<(l0_3.length:Int):=da;obtain ⟨ad142,e142,hx142_0,hx142_1,hx142_2,hx142_3⟩:=at_T32 HR0_3.out (ji94) p142 q142;have hw142_3:=hx142_3;have hw142_2:=hx142_2;have hw142_1:=hx142_1;have hw142_0:=hx142_0;obtain rfl:ad138=ad142:=(by injection e142);replace hx142_0:=lx (bw HB.out) hx142_0;replace hx142_1:=lx (bw HB.out) hx142_1;replace hx142_2:=lx (bw HB.out) hx142_2;replace hx142_3:=lx (bw HB.out) hx142_3;replace p142:=eq_true p142;replace q142:=eq_true q142;refine start_ (n:=57) (S:=fun w'=>w'.cell? ⟨gb139,0,none⟩=some (.int .i64 ((rd_T32 l0_3 x38_2).f0))∧w'.cell? ⟨gb139,1,none⟩=some (.string ((rd_T32 l0_3 x38_2).f1))∧w'.cell? ⟨gb139,2,none⟩=some (.int .i64 ((rd_T32 l0_3 x38_2).f2))∧w'.cell? ⟨gb139,3,none⟩=some (.int .i64 ((rd_T32 l0_3 x38_2).f3))∧w'.cell? ⟨gb135,0,none⟩=some (.int .i64 a0_0)∧w'.cell? ⟨gb135,1,none⟩=some (.slice A0_1 l0_1.length c0_1)∧w'.cell? ⟨gb135,2,none⟩=some (.slice A0_2 l0_2.length c0_2)∧w'.cell? ⟨gb135,3,none⟩=some (.slice (some ad138) l0_3.length c0_3)∧w'.cell? (ad138.add (((ji94)).toNat*4))=some (.int .i64 ((rd_T32 l0_3 (ji94)).f0))∧w'.cell? ⟨(ad138.add (((ji94)).toNat*4)).block,(ad138.add (((ji94)).toNat*4)).off+1,none⟩=some (.string ((rd_T32 l0_3 (ji94)).f1))∧w'.cell? ⟨(ad138.add (((ji94)).toNat*4)).block,(ad138.add (((ji94)).toNat*4)).off+2,none⟩=some (.int .i64 ((rd_T32 l0_3 (ji94)).f2))∧w'.cell? ⟨(ad138.add (((ji94)).toNat*4)).block,(ad138.add (((ji94)).toNat*4)).off+3,none⟩=some (.int .i64 ((rd_T32 l0_3 (ji94)).f3))) (ds:=[]) (mkp 57 0) (by kernel_rfl) rfl rfl ⟨bl BK139.out 0,bl BK139.out 1,bl BK139.out 2,bl BK139.out 3,bl BK135.out 0,bl BK135.out 1,bl BK135.out 2,bl BK135.out 3,(lx (bw HB.out) hw142_0),(lx (bw HB.out) hw142_1),(lx (bw HB.out) hw142_2),(lx (bw HB.out) hw142_3)⟩ (fun hHeld=> ?_);refine with_tabW impl_AutomatonValid.tab6 impl_AutomatonValid.bits6 (fun HT_ HW_=> ?_);generalize w108.drew=w109 at BK135 BK139 HB hx142_0 hx142_1 hx142_2 hx142_3 hHeld ⊢;(iterate 5 (first|refine qv HT_ ?_|refine tk HT_ HW_ hHeld ?_));refine pv 6 49 57 95 HT_ ?_;refine tkm 5 48 (mkp 57 7) HT_ HW_ hHeld ?_;(iterate 10 (first|refine qv HT_ ?_|refine tk HT_ HW_ hHeld ?_));refine pv 18 61 57 393215 HT_ ?_;refine tkm 17 60 (mkp 57 19) HT_ HW_ hHeld ?_;(iterate 28 (first|refine qv HT_ ?_|refine tk HT_ HW_ hHeld ?_));refine pv 48 91 57 422212465065983 HT_ ?_;refine pv 49 92 57 985162418487295 HT_ ?_;refine tkm 47 90 (mkp 57 50) HT_ HW_ hHeld ?_;(iterate 3 (first|refine qv HT_ ?_|refine tk HT_ HW_ hHeld ?_));refine on 53 (mkp 57 54) HT_ (fun K hK=> ?_);refine goes_ Try.func61 (by kernel_rfl) rfl #[.agg #[.int .i64 ((rd_T32 l0_3 (ji94)).f0), .string ((rd_T32 l0_3 (ji94)).f1), .int .i64 ((rd_T32 l0_3 (ji94)).f2), .int .i64 ((rd_T32 l0_3 (ji94)).f3)], .agg #[.int .i64 ((rd_T32 l0_3 x38_2).f0), .string ((rd_T32 l0_3 x38_2).f1), .int .i64 ((rd_T32 l0_3 x38_2).f2), .int .i64 ((rd_T32 l0_3 x38_2).f3)]] (by rfl) rfl rfl (by (try simp only [List.map_toArray,List.map_cons,List.map_nil]);first|done|(simp only [hji94];rfl)|rfl|(simp only [List.length_drop,List.length_take];rfl)) ?_
                     with_reducible refine (impl_stepOrder.calls k2 ((rd_T32 l0_3 (ji94)).f0) ((rd_T32 l0_3 (ji94)).f1) ((rd_T32 l0_3 (ji94)).f2) ((rd_T32 l0_3 (ji94)).f3) ((rd_T32 l0_3 x38_2).f0) ((rd_T32 l0_3 x38_2).f1) ((rd_T32 l0_3 x38_2).f2) ((rd_T32 l0_3 x38_2).f3) t143 _ A97.out).mono ?_
                     rintro e w110 ⟨rfl,hb⟩;refine ⟨_,rfl,?_⟩;replace BK135:=bk BK135 hb;replace BK139:=bk BK139 hb;replace HB:=hs HB hb;(try clear hb);refine hK.out _ _ ⟨bl BK139.out 0,bl BK139.out 1,bl BK139.out 2,bl BK139.out 3,bl BK135.out 0,bl BK135.out 1,bl BK135.out 2,bl BK135.out 3,(lx (bw HB.out) hw142_0),(lx (bw HB.out) hw142_1),(lx (bw HB.out) hw142_2),(lx (bw HB.out) hw142_3)⟩ (fun hHeld=> ?_);clear hK K;refine norm_ (a':= ?_) ?_ ?_;rotate_left
                     ·show Act.put _ (some 96) _=_;simp only [Act.put,List.setIfInBounds_toArray,List.set_cons_zero,List.set_cons_succ,i64_w,i32_w];rfl
                     (iterate 3 refine qv HT_ ?_);refine done_ (done_of HT_.out (by kernel_rfl)) ?_;(try go_wp2);go_roundg k2
                     case measure=>have:=HJ1.out;have:=HK2.out;omega
                     case rel=>exact ⟨(wrap64 (x38_2+1)),(by first|rfl|(simp;done)|(simp [*];done)),H',⟨by have:=HJ1.out;have:=HK2.out;omega⟩,⟨kz BK135.out⟩,⟨by exact bw HB.out⟩⟩
                   ·rw [if_neg c96] at H;exact absurd H (by simp)
                  ·rw [if_neg c95] at H;exact absurd H (by simp)
                 ·rw [if_neg c93] at H;have c93b0:decide (0<x38_2)=false:=decide_eq_false c93;clear c93;have H':=am H;clear H;have p138:0≤(x38_2:Int):=da;have q138:x38_2<(l0_3.length:Int):=da;obtain ⟨ad138,e138,hx138_0,hx138_1,hx138_2,hx138_3⟩:=at_T32 HR0_3.out x38_2 p138 q138;cases e138;replace hx138_0:=lx (bw HB.out) hx138_0;replace hx138_1:=lx (bw HB.out) hx138_1;replace hx138_2:=lx (bw HB.out) hx138_2;replace hx138_3:=lx (bw HB.out) hx138_3;replace p138:=eq_true p138;replace q138:=eq_true q138;(try go_wp2_with (first|((with_reducible refine gx 4 rfl ?_);(try (refine gate_guard (by rfl) ?_;dsimp only));refine be (cs:= #[.int .i64 0, .string (⟨#[]⟩:ByteArray), .int .i64 0, .int .i64 0]) (t:=32) ?_;intro gb139 hg w111 hbox hb;have BK139:=am (hbox);have GW139:=gs hg (bw HB.out);have GE139:=gs hg (bw HB.out);replace HB:=hs HB hb;have NB135_139:=nl hg (kz BK135.out);have NB139_135:=nr hg (kz BK135.out);replace BK135:=bk BK135 hb;clear hb hbox hg;have hnb112:=NB139_135.out;have hnc112:=NB135_139.out;have hz113:=zf4 BK139.out)));generalize hW_:((((w111.setCell ⟨gb139,0,none⟩ (.int .i64 ((rd_T32 l0_3 x38_2).f0))).setCell ⟨gb139,1,none⟩ (.string ((rd_T32 l0_3 x38_2).f1))).setCell ⟨gb139,2,none⟩ (.int .i64 ((rd_T32 l0_3 x38_2).f2))).setCell ⟨gb139,3,none⟩ (.int .i64 ((rd_T32 l0_3 x38_2).f3)))=w114;have n0_:Aside0 (w114.heap[gb135]? =some (.cells #[.int .i64 a0_0, .slice A0_1 l0_1.length c0_1, .slice A0_2 l0_2.length c0_2, .slice (some ad138) l0_3.length c0_3] 26 (0,0))):=⟨by rw [←hW_];exact kp BK135.out⟩;have n1_:Aside0 (w114.heap[gb139]? =some (.cells #[.int .i64 ((rd_T32 l0_3 x38_2).f0), .string ((rd_T32 l0_3 x38_2).f1), .int .i64 ((rd_T32 l0_3 x38_2).f2), .int .i64 ((rd_T32 l0_3 x38_2).f3)] 32 (0,0))):=⟨by rw [←hW_];exact kp BK139.out⟩;have n2_:Aside0 (Below w.heap.size w w114):=⟨by rw [←hW_];exact bw HB.out⟩;(try clear BK135);(try clear BK139);(try clear HB);clear hW_;revert n0_ n1_ n2_;intro BK135 BK139 HB;replace BK135:=am (blk_drew BK135.out);replace BK139:=am (blk_drew BK139.out);replace HB:=am (below_drew1 HB.out);refine start_ (n:=57) (S:=fun w'=>w'.cell? ⟨gb139,0,none⟩=some (.int .i64 ((rd_T32 l0_3 x38_2).f0))∧w'.cell? ⟨gb139,1,none⟩=some (.string ((rd_T32 l0_3 x38_2).f1))∧w'.cell? ⟨gb139,2,none⟩=some (.int .i64 ((rd_T32 l0_3 x38_2).f2))∧w'.cell? ⟨gb139,3,none⟩=some (.int .i64 ((rd_T32 l0_3 x38_2).f3))∧w'.cell? ⟨gb135,0,none⟩=some (.int .i64 a0_0)∧w'.cell? ⟨gb135,1,none⟩=some (.slice A0_1 l0_1.length c0_1)∧w'.cell? ⟨gb135,2,none⟩=some (.slice A0_2 l0_2.length c0_2)∧w'.cell? ⟨gb135,3,none⟩=some (.slice (some ad138) l0_3.length c0_3)) (ds:=[]) (mkp 57 0) (by kernel_rfl) rfl rfl (b4 BK139 (b4e BK135)) (fun hHeld=> ?_);refine with_tabW impl_AutomatonValid.tab6 impl_AutomatonValid.bits6 (fun HT_ HW_=> ?_);generalize w114.drew=w115 at BK135 BK139 HB hHeld ⊢;(iterate 5 (first|refine qv HT_ ?_|refine tk HT_ HW_ hHeld ?_));refine pv 6 49 57 95 HT_ ?_;refine tkm 5 48 (mkp 57 7) HT_ HW_ hHeld ?_;(iterate 10 (first|refine qv HT_ ?_|refine tk HT_ HW_ hHeld ?_));refine pv 18 61 57 393215 HT_ ?_;refine tkm 17 60 (mkp 57 19) HT_ HW_ hHeld ?_;(iterate 38 (first|refine qu HT_ ?_|refine qv HT_ ?_|refine tk HT_ HW_ hHeld ?_));refine done_ (done_of HT_.out (by kernel_rfl)) ?_;(try go_wp2);go_roundg k2
                  case measure=>have:=HJ1.out;have:=HK2.out;omega
                  case rel=>exact ⟨(wrap64 (x38_2+1)),(by first|rfl|(simp;done)|(simp [*];done)),H',⟨by have:=HJ1.out;have:=HK2.out;omega⟩,⟨kz BK135.out⟩,⟨by exact bw HB.out⟩⟩
              ·rw [if_neg c80] at H;have c80b0:(((rd_T32 l0_3 x38_2).f1).toList==([98]:List UInt8))=false:=beq_eq_false_iff_ne.mpr c80;have c80b1:(((rd_T32 l0_3 x38_2).f1).toList != ([98]:List UInt8))=true:=bne_iff_ne.mpr c80;obtain rfl:=Option.some.inj H;have p138:0≤(x38_2:Int):=da;have q138:x38_2<(l0_3.length:Int):=da;obtain ⟨ad138,e138,hx138_0,hx138_1,hx138_2,hx138_3⟩:=at_T32 HR0_3.out x38_2 p138 q138;cases e138;replace hx138_0:=lx (bw HB.out) hx138_0;replace hx138_1:=lx (bw HB.out) hx138_1;replace hx138_2:=lx (bw HB.out) hx138_2;replace hx138_3:=lx (bw HB.out) hx138_3;replace p138:=eq_true p138;replace q138:=eq_true q138;(try go_wp2_with (first|((with_reducible refine gx 4 rfl ?_);(try (refine gate_guard (by rfl) ?_;dsimp only));refine be (cs:= #[.int .i64 0, .string (⟨#[]⟩:ByteArray), .int .i64 0, .int .i64 0]) (t:=32) ?_;intro gb139 hg w116 hbox hb;have BK139:=am (hbox);have GW139:=gs hg (bw HB.out);have GE139:=gs hg (bw HB.out);replace HB:=hs HB hb;have NB135_139:=nl hg (kz BK135.out);have NB139_135:=nr hg (kz BK135.out);replace BK135:=bk BK135 hb;clear hb hbox hg;have hnb117:=NB139_135.out;have hnc117:=NB135_139.out;have hz118:=zf4 BK139.out)));generalize hW_:((((w116.setCell ⟨gb139,0,none⟩ (.int .i64 ((rd_T32 l0_3 x38_2).f0))).setCell ⟨gb139,1,none⟩ (.string ((rd_T32 l0_3 x38_2).f1))).setCell ⟨gb139,2,none⟩ (.int .i64 ((rd_T32 l0_3 x38_2).f2))).setCell ⟨gb139,3,none⟩ (.int .i64 ((rd_T32 l0_3 x38_2).f3)))=w119;have n0_:Aside0 (w119.heap[gb135]? =some (.cells #[.int .i64 a0_0, .slice A0_1 l0_1.length c0_1, .slice A0_2 l0_2.length c0_2, .slice (some ad138) l0_3.length c0_3] 26 (0,0))):=⟨by rw [←hW_];exact kp BK135.out⟩;have n1_:Aside0 (w119.heap[gb139]? =some (.cells #[.int .i64 ((rd_T32 l0_3 x38_2).f0), .string ((rd_T32 l0_3 x38_2).f1), .int .i64 ((rd_T32 l0_3 x38_2).f2), .int .i64 ((rd_T32 l0_3 x38_2).f3)] 32 (0,0))):=⟨by rw [←hW_];exact kp BK139.out⟩;have n2_:Aside0 (Below w.heap.size w w119):=⟨by rw [←hW_];exact bw HB.out⟩;(try clear BK135);(try clear BK139);(try clear HB);clear hW_;revert n0_ n1_ n2_;intro BK135 BK139 HB;replace BK135:=am (blk_drew BK135.out);replace BK139:=am (blk_drew BK139.out);replace HB:=am (below_drew1 HB.out);refine start_ (n:=57) (S:=fun w'=>w'.cell? ⟨gb139,0,none⟩=some (.int .i64 ((rd_T32 l0_3 x38_2).f0))∧w'.cell? ⟨gb139,1,none⟩=some (.string ((rd_T32 l0_3 x38_2).f1))∧w'.cell? ⟨gb139,2,none⟩=some (.int .i64 ((rd_T32 l0_3 x38_2).f2))∧w'.cell? ⟨gb139,3,none⟩=some (.int .i64 ((rd_T32 l0_3 x38_2).f3))∧w'.cell? ⟨gb135,0,none⟩=some (.int .i64 a0_0)∧w'.cell? ⟨gb135,1,none⟩=some (.slice A0_1 l0_1.length c0_1)∧w'.cell? ⟨gb135,2,none⟩=some (.slice A0_2 l0_2.length c0_2)∧w'.cell? ⟨gb135,3,none⟩=some (.slice (some ad138) l0_3.length c0_3)) (ds:=[]) (mkp 57 0) (by kernel_rfl) rfl rfl (b4 BK139 (b4e BK135)) (fun hHeld=> ?_);refine with_tabW impl_AutomatonValid.tab6 impl_AutomatonValid.bits6 (fun HT_ HW_=> ?_);generalize w119.drew=w120 at BK135 BK139 HB hHeld ⊢;(iterate 5 (first|refine qv HT_ ?_|refine tk HT_ HW_ hHeld ?_));refine pv 6 49 57 95 HT_ ?_;refine tkm 5 48 (mkp 57 7) HT_ HW_ hHeld ?_;(iterate 10 (first|refine qv HT_ ?_|refine tk HT_ HW_ hHeld ?_));refine pv 18 61 57 393215 HT_ ?_;refine tkm 17 60 (mkp 57 19) HT_ HW_ hHeld ?_;(iterate 38 (first|refine qu HT_ ?_|refine qv HT_ ?_|refine tk HT_ HW_ hHeld ?_));refine done_ (done_of HT_.out (by kernel_rfl)) ?_;(try go_wp2);go_ret;exact ⟨by first|rfl|(simp [errW_none,errW_some]<;> rfl)|(simp [*,errW_none,errW_some]<;> rfl),by exact bw HB.out⟩
        ·rw [if_neg c19] at H;exact absurd H (by simp)
       ·rw [if_neg c18] at H;exact absurd H (by simp)
      ·rw [if_neg c17] at H;have c17b0:decide (x38_2<(l0_3.length:Int))=false:=decide_eq_false c17;clear c17;obtain rfl:=Option.some.inj H;go_wp2;go_ret;exact ⟨by first|rfl|(simp [errW_none,errW_some]<;> rfl)|(simp [*,errW_none,errW_some]<;> rfl),by exact bw HB.out⟩

/-! ### slices_Clone_Step: function 39 -/
def slices_Clone_Step.f (l0:List S32):Option (List S32):=if l0.length≤1000 then some l0 else none
set_option maxHeartbeats 4000000 in
theorem slices_Clone_Step.calls (A0:Option Addr) (c0:Nat) (l0:List S32) (r:List S32) (w:World) (hr0:Kd.C k32 w A0 l0.length l0) (hc0:l0.length≤c0) (h:slices_Clone_Step.f l0=some r):
    Calls Try.prog 39 #[.slice A0 l0.length c0] w fun e w'=>∃v0_:Value,e= .returned (v0_)∧Kd.R k32 32 w' w.heap.size (fun _=>True) v0_ r∧Below w.heap.size w w':=by
  unfold slices_Clone_Step.f at h
  split at h
  · rename_i hl
    obtain rfl:=Option.some.inj h
    have hq:∀(w:World) (a:Option Addr) (n c n' c':Nat),(binOp .eql 24 (.slice a n c) (.slice none n' c')).run Try.prog w= .ok (.bool a.isNone) w:=fun w a n c n' c'=>Lib.run_eql_slice_nil w _ _ a n c n' c' Try.underlying24
    have HB:=am (Below.refl w.heap.size w)
    have HL:=am hl
    have HR:=am hr0
    clear h hl
    cases A0 with
    |none=>
      have e:l0=[]:=by
        cases l0 with
        |nil=>rfl
        |cons x xs=>
          obtain ⟨ad,e,_⟩:=hr0.2.2 (by simp)
          cases e
      subst e
      clear hr0 HR HL hc0
      go_enter Try.func39,Try.ntmps39
      go_wp2
      go_ret
      exact ⟨_,rfl,Kd.R_nil _ _ _ _ _,HB.out⟩
    |some ad=>
      clear hr0
      go_enter Try.func39,Try.ntmps39
      go_wp2_with (first|((with_reducible refine gx 5 rfl ?_);refine Kd.R_lit k32 _ 32 ?hg (N:=5) ?hd (xs:=([]:List S32)) (inner:=[]) (ok:=fun _=>True) (okp:=fun _=>True) ?hr ?hp (fun _ hk=>hk) trivial (Below.refl _ _) (Nat.le_refl _) (by simp) ?_;(case hd=>rfl);(case hg=>rfl);(case hr=>first|(go_simp;done)|(go_simp;rfl));(case hp=>exact (Reps.none _ _));intro v5 w5 ho hb hg_ hnew_;have HO:=am (Kd.R_lower ho (below_size (bw HB.out)));have HB:=hs HB hb;clear hg_ hnew_ hb ho)|((with_reducible refine gate_builtin (b:= .append) (xs:= #[.tmp 5, .tmp 6]) rfl ?_);at_builtin;refine Kd.R_append_rows k32 (w0:=w) w.heap.size rfl (.tmp 5) (.tmp 6) 24 32 (.agg #[(.int .i64 0),(.string ⟨#[]⟩),(.int .i64 0),(.int .i64 0)]) 40 rfl Try.underlying24 info32 rfl (by decide) (by omega) v5 ([]:List S32) l0 _ _ _ (fun _=>True) (fun _=>False) rfl rfl ?aO ?aR (fun _ _ h=>h) (fun _ h=>h.elim) ?aF ?aB ?aS ?aL ?_;(case aR=>exact cc (Kd.C_below HR.out HB.out));(case aB=>exact (bw HB.out));(case aF=>exact (fun _ _=>trivial));(case aO=>exact (rz HO.out));(case aS=>exact (below_size (bw HB.out)));(case aL=>have:=HL.out;simp only [List.length_nil];omega);intro v6 w6 ho hb hg hat;have HO2:=am ho;have HB2:=am hb;clear ho hb hg hat HO HB))
      go_ret
      exact ⟨_,rfl,HO2.out,HB2.out⟩
  · cases h


/-! ### slices_Clone_int_int: function 70 -/
def slices_Clone_int_int.f (l0:List Int):Option (List Int):=if l0.length≤1000 then some l0 else none
set_option maxHeartbeats 4000000 in
theorem slices_Clone_int_int.calls (A0:Option Addr) (c0:Nat) (l0:List Int) (r:List Int) (w:World) (hr0:Kd.C (Kd.int .i64) w A0 l0.length l0) (hc0:l0.length≤c0) (h:slices_Clone_int_int.f l0=some r):
    Calls Try.prog 70 #[.slice A0 l0.length c0] w fun e w'=>∃v0_:Value,e= .returned (v0_)∧Kd.R (Kd.int .i64) 3 w' w.heap.size (fun _=>True) v0_ r∧Below w.heap.size w w':=by
  unfold slices_Clone_int_int.f at h
  split at h
  · rename_i hl
    obtain rfl:=Option.some.inj h
    have hq:∀(w:World) (a:Option Addr) (n c n' c':Nat),(binOp .eql 23 (.slice a n c) (.slice none n' c')).run Try.prog w= .ok (.bool a.isNone) w:=fun w a n c n' c'=>Lib.run_eql_slice_nil w _ _ a n c n' c' Try.underlying23
    have HB:=am (Below.refl w.heap.size w)
    have HL:=am hl
    have HR:=am hr0
    clear h hl
    cases A0 with
    |none=>
      have e:l0=[]:=by
        cases l0 with
        |nil=>rfl
        |cons x xs=>
          obtain ⟨ad,e,_⟩:=hr0.2.2 (by simp)
          cases e
      subst e
      clear hr0 HR HL hc0
      go_enter Try.func70,Try.ntmps70
      go_wp2
      go_ret
      exact ⟨_,rfl,Kd.R_nil _ _ _ _ _,HB.out⟩
    |some ad=>
      clear hr0
      go_enter Try.func70,Try.ntmps70
      go_wp2_with (first|((with_reducible refine gx 5 rfl ?_);refine Kd.R_lit (Kd.int .i64) _ 3 ?hg (N:=5) ?hd (xs:=([]:List Int)) (inner:=[]) (ok:=fun _=>True) (okp:=fun _=>True) ?hr ?hp (fun _ hk=>hk) trivial (Below.refl _ _) (Nat.le_refl _) (by simp) ?_;(case hd=>rfl);(case hg=>rfl);(case hr=>first|(go_simp;done)|(go_simp;rfl));(case hp=>exact (Reps.none _ _));intro v5 w5 ho hb hg_ hnew_;have HO:=am (Kd.R_lower ho (below_size (bw HB.out)));have HB:=hs HB hb;clear hg_ hnew_ hb ho)|((with_reducible refine gate_builtin (b:= .append) (xs:= #[.tmp 5, .tmp 6]) rfl ?_);at_builtin;refine Kd.R_append_rows (Kd.int .i64) (w0:=w) w.heap.size rfl (.tmp 5) (.tmp 6) 23 3 (.int .i64 0) 8 rfl Try.underlying23 info3 rfl (by decide) (by omega) v5 ([]:List Int) l0 _ _ _ (fun _=>True) (fun _=>False) rfl rfl ?aO ?aR (fun _ _ h=>h) (fun _ h=>h.elim) ?aF ?aB ?aS ?aL ?_;(case aR=>exact cc (Kd.C_below HR.out HB.out));(case aB=>exact (bw HB.out));(case aF=>exact (fun _ _=>trivial));(case aO=>exact (rz HO.out));(case aS=>exact (below_size (bw HB.out)));(case aL=>have:=HL.out;simp only [List.length_nil];omega);intro v6 w6 ho hb hg hat;have HO2:=am ho;have HB2:=am hb;clear ho hb hg hat HO HB))
      go_ret
      exact ⟨_,rfl,HO2.out,HB2.out⟩
  · cases h


-- NOT PRINTED: function 109 (cmp_Less_int)

-- NOT PRINTED: function 103 (slices_insertionSortOrdered_int)

-- NOT PRINTED: function 126 (slices_siftDownOrdered_int)

-- NOT PRINTED: function 104 (slices_heapSortOrdered_int)

-- NOT PRINTED: function 112 (bits_Len32)

-- NOT PRINTED: function 113 (bits_Len64)

-- NOT PRINTED: function 97 (bits_Len)

-- NOT PRINTED: function 127 (slices_nextPowerOfTwo)

-- NOT PRINTED: function 128 (slices_xorshift_Next)

-- NOT PRINTED: function 105 (slices_breakPatternsOrdered_int)

-- NOT PRINTED: function 134 (slices_order2Ordered_int)

-- NOT PRINTED: function 130 (slices_medianOrdered_int)

-- NOT PRINTED: function 129 (slices_medianAdjacentOrdered_int)

-- NOT PRINTED: function 106 (slices_choosePivotOrdered_int)

-- NOT PRINTED: function 107 (slices_reverseRangeOrdered_int)

-- NOT PRINTED: function 108 (slices_partialInsertionSortOrdered_int)

-- NOT PRINTED: function 110 (slices_partitionEqualOrdered_int)

-- NOT PRINTED: function 111 (slices_partitionOrdered_int)

-- NOT PRINTED: function 96 (slices_pdqsortOrdered_int)

/-! ### slices_Sort_int_int: function 71 -/
theorem rowl_at {α:Type} {R:α→List Value→Prop} {enc:α→List Value} {k:Nat} (hR:∀x cs,R x cs→cs=enc x) {xs:List α} {inner:List Value} (h:Reps R k xs inner) (j:Nat) (hj:j<xs.length) (i:Nat) (hi:i<k):inner[j*k+i]? =(enc xs[j])[i]? :=by
  have h2:=hR _ _ (h.2 j xs[j] (List.getElem?_eq_getElem hj))
  rw [←h2,List.getElem?_take,if_pos hi,List.getElem?_drop]
theorem rowl_lt {j k i n:Nat} (hj:j<n) (hi:i<k):j*k+i<n*k:=by
  have:(j+1)*k≤n*k:=Nat.mul_le_mul_right _ hj
  rw [Nat.succ_mul] at this
  omega
theorem rowl_parts {α:Type} {d:Kd α} {e base g n cap:Nat} {P:Nat→Prop} {w:World} {xs:List α} (h:d.R e w base P (.slice (some ⟨g,0,none⟩) n cap) xs):
    ∃cur,P g∧base≤g∧n=xs.length∧n≤cap∧cap≤maxLen∧w.heap[g]? =some (.cells cur e (0,0))∧cur.size=cap*d.sz∧Reps (d.M w base (fun k=>P k∧some k≠some g)) d.sz xs (cur.toList.take (n*d.sz)):=by
  obtain ⟨hP,inner,ho,hr⟩:=h
  rcases ho.2 with ⟨he,_⟩|⟨g',cap',cur,he,hb,hh,hnc,hcm,hcs,ht⟩
  · cases he
  · injection he with h1 h2 h3
    injection h1 with h1
    injection h1 with h1
    subst h1 h2 h3
    exact ⟨cur,hP _ rfl,hb,rfl,hnc,hcm,hh,hcs,ht▸hr⟩
theorem rowl_cell {α:Type} {d:Kd α} {enc:α→List Value} {e base g n cap:Nat} {P:Nat→Prop} {w:World} {xs:List α} (h:d.R e w base P (.slice (some ⟨g,0,none⟩) n cap) xs) (hM:∀w base ok x cs,d.M w base ok x cs→cs=enc x) (j:Nat) (hj:j<xs.length) (i:Nat) (hi:i<d.sz):w.cell? ⟨g,j*d.sz+i,none⟩=(enc xs[j])[i]?∧w.frozen? ⟨g,j*d.sz+i,none⟩=false:=by
  obtain ⟨cur,_,_,hn,hnc,_,hh,hcs,hr⟩:=rowl_parts h
  have hlt:j*d.sz+i<n*d.sz:=rowl_lt (by omega) hi
  refine ⟨?_,by simp [World.frozen?,hh]⟩
  rw [←rowl_at (fun x cs=>hM _ _ _ x cs) hr j hj i hi,List.getElem?_take,if_pos hlt]
  simp [World.cell?,hh]
/-- Cells of the row's own block are laid anew: the row of what they hold now. -/
theorem rowl_put {α:Type} {d:Kd α} {enc:α→List Value} {e base g n cap:Nat} {P:Nat→Prop} {w:World} {xs:List α} (h:d.R e w base P (.slice (some ⟨g,0,none⟩) n cap) xs) (hmk:∀w base ok x,d.M w base ok x (enc x)) (hlen:∀x,(enc x).length=d.sz) (hs:0<d.sz) (xs':List α) (hl:xs'.length=xs.length) (m:Nat) (os:Array Obj) (G:Array Value→Array Value) (hG:∀c,(G c).size=c.size)
    (hv:∀(c:Array Value) (j:Nat) (hj:j<xs'.length) (i:Nat),i<d.sz→j*d.sz+i<c.size→(G c)[j*d.sz+i]? =(enc xs'[j])[i]?):
    d.R e (Sort.grow (Sort.mapBlock (Sort.ahead w m) g G) os) base P (.slice (some ⟨g,0,none⟩) n cap) xs'∧w.grownBy (Sort.grow (Sort.mapBlock (Sort.ahead w m) g G) os) (some g):=by
  obtain ⟨cur,hP,hb,hn,hnc,hcm,hh,hcs,hr⟩:=rowl_parts h
  have hg:g<w.heap.size:=(Array.getElem?_eq_some_iff.1 hh).1
  have hb':(Sort.grow (Sort.mapBlock (Sort.ahead w m) g G) os).heap[g]? =some (.cells (G cur) e (0,0)):=by
    show (((w.heap.modify g (Sort.onCells G))++os)[g]?)=_
    rw [Array.getElem?_append_left (by simpa using hg),Array.getElem?_modify,if_pos rfl,hh]
    rfl
  refine ⟨⟨fun k hk=> ?_,(G cur).toList.take (n*d.sz),⟨?_, .inr ⟨g,cap,G cur,by rw [hn,hl],hb,hb',by omega,hcm,by rw [hG,hcs],by rw [hl,←hn]⟩⟩,?_,fun j p hj=> ?_⟩,?_⟩
  · have:g=k:=by simpa [Value.ownBlock] using hk
    exact this▸hP
  · rw [List.length_take,Array.length_toList,hG,hcs,hl,←hn]
    exact Nat.min_eq_left (Nat.mul_le_mul_right _ hnc)
  · rw [List.length_take,Array.length_toList,hG,hcs,hl,←hn]
    exact Nat.min_eq_left (Nat.mul_le_mul_right _ hnc)
  · obtain ⟨hjl,rfl⟩:=List.getElem?_eq_some_iff.1 hj
    have e1:(((G cur).toList.take (n*d.sz)).drop (j*d.sz)).take d.sz=enc xs'[j]:=by
      apply List.ext_getElem?
      intro i
      rw [List.getElem?_take]
      split
      · rename_i hi
        have hlt:j*d.sz+i<n*d.sz:=rowl_lt (by omega) hi
        have hle:n*d.sz≤cap*d.sz:=Nat.mul_le_mul_right _ hnc
        rw [List.getElem?_drop,List.getElem?_take,if_pos hlt,Array.getElem?_toList,hv cur j hjl i hi (by omega)]
      · rename_i hi
        rw [List.getElem?_eq_none (by rw [hlen];omega)]
    rw [e1]
    exact hmk _ _ _ _
  · refine ⟨rfl,rfl,rfl,by simp [Sort.grow,Sort.mapBlock,Sort.ahead],fun k hk hne=> ?_⟩
    show (((w.heap.modify g (Sort.onCells G))++os)[k]?)=_
    rw [Array.getElem?_append_left (by simpa using hk),Array.getElem?_modify,if_neg (fun e=>hne (by rw [e]))]
def slices_Sort_int_int.f (l0:List Int):Option (List Int):=if l0.length≤1000 then some (l0.mergeSort fun x y=>decide (x≤y)) else none
theorem slices_Sort_int_int.calls (P0_:Nat→Prop) (u9000_:Value) (l0:List Int) (r:List Int) (w0 w:World) (hB:Below w0.heap.size w0 w) (ho0:Kd.R (Kd.int .i64) 3 w w0.heap.size P0_ u9000_ l0) (h:slices_Sort_int_int.f l0=some r):
    Calls Try.prog 71 #[u9000_] w fun e w'=>e= .returned (.tuple #[])∧Kd.R (Kd.int .i64) 3 w' w0.heap.size (fun k_=>(P0_ k_∨w.heap.size≤k_)) u9000_ r∧Below w0.heap.size w0 w'∧Kept w w' (fun k_=>P0_ k_):=by
  unfold slices_Sort_int_int.f at h
  split at h
  · rename_i hl
    obtain rfl:=Option.some.inj h
    obtain ⟨A,c,rfl⟩:=Kd.R_slice ho0
    cases A with
    |none=>
      have e:l0=[]:=by
        obtain ⟨_,hr⟩:=Kd.R_reads' ho0
        cases l0 with
        |nil=>rfl
        |cons x xs=>
          obtain ⟨ad,e,_⟩:=hr.2.2.2 (by simp)
          cases e
      subst e
      refine (Try.slices_Sort_int_none none c w).mono ?_
      rintro e w' ⟨rfl,rfl⟩
      rw [List.mergeSort_nil]
      exact ⟨rfl,Kd.R_mono ho0 (fun _ hk=> .inl hk),hB,Kept.refl _ _⟩
    |some ad=>
      obtain ⟨g,rfl⟩:∃g,ad=⟨g,0,none⟩:=by
        obtain ⟨_,inner,ho,_⟩:=ho0
        rcases ho.2 with ⟨he,_⟩|⟨g,cap,cur,he,_⟩
        · cases he
        · injection he with h1
          injection h1 with h1
          exact ⟨g,h1⟩
      obtain ⟨cur,hP,hbase,_,_,_,hh,_,_⟩:=rowl_parts ho0
      have hg:g<w.heap.size:=(Array.getElem?_eq_some_iff.1 hh).1
      have hH:Sort.Holds (Value.int .i64) w g 0 l0.toArray:=fun t ht=>by
        have ht':t<l0.length:=by simpa using ht
        have hc:=rowl_cell (enc:=fun x=>[Value.int .i64 x]) ho0 (fun _ _ _ _ _ h=>h) t ht' 0 (by decide)
        rw [show (Kd.int .i64).sz=1 from rfl,Nat.mul_one,Nat.add_zero] at hc
        rw [Nat.zero_add]
        refine ⟨?_,hc.2⟩
        rw [hc.1,getElem!_pos l0.toArray t ht]
        rfl
      refine (Try.slices_Sort_int g 0 c l0 w hH hg (by omega)).mono ?_
      rintro e w' ⟨rfl,m,os,rfl⟩
      generalize hq:(l0.mergeSort fun x y=>decide (x≤y))=q
      have hsz:q.length=l0.length:=by rw [←hq,List.length_mergeSort]
      obtain ⟨hR,hG⟩:=rowl_put (enc:=fun x=>[Value.int .i64 x]) ho0 (fun w base ok x=>rfl) (fun _=>rfl) (by decide) q hsz m os (Sort.putCells (Value.int .i64) 0 q.toArray) (fun c=>by simp [Sort.putCells]) (fun c j hj i hi hlt=>by
        have hi:i<1:=hi
        obtain rfl:i=0:=by omega
        have hlt:j*1+0<c.size:=hlt
        show (Sort.putCells (Value.int .i64) 0 q.toArray c)[j*1+0]? =_
        rw [Nat.mul_one,Nat.add_zero] at*
        simp only [Sort.putCells,Array.getElem?_mapIdx,Array.getElem?_eq_getElem hlt,Option.map_some]
        rw [if_pos ⟨Nat.zero_le _,by simpa using hj⟩,Nat.sub_zero,getElem!_pos q.toArray j (by simpa using hj)]
        rfl)
      exact ⟨rfl,Kd.R_mono hR (fun _ hk=> .inl hk),pw_below_grown hB (some g) hB.size hG (fun k hk=>by injection hk with hk;subst hk;exact hbase),Kept.of_grown hG (Kept.refl _ _) (fun k hk=>by injection hk with hk;subst hk;exact .inl hP)⟩
  · cases h


-- NOT PRINTED: function 114 (impl_Step_114)

-- NOT PRINTED: function 131 (impl_Step_131)

-- NOT PRINTED: function 115 (impl_Step_115)

-- NOT PRINTED: function 116 (impl_Step_116)

-- NOT PRINTED: function 135 (impl_Step_135)

-- NOT PRINTED: function 133 (impl_Step_133)

-- NOT PRINTED: function 132 (impl_Step_132)

-- NOT PRINTED: function 117 (impl_Step_117)

-- NOT PRINTED: function 118 (impl_Step_118)

-- NOT PRINTED: function 119 (impl_Step_119)

-- NOT PRINTED: function 120 (impl_Step_120)

-- NOT PRINTED: function 121 (impl_Step_121)

-- NOT PRINTED: function 98 (impl_Step_98)

-- NOT PRINTED: function 72 (impl_Step_72)

/-! ### slices_SortFunc_Step_at_impl_stepOrder: function 200000 -/
theorem so_cmp_bytes:∀a b:List UInt8,Lib.compareBytes a b=if a=b then 0 else if Op.bytesLess a b then -1 else 1
  |[],[]=>by simp [Lib.compareBytes]
  |[],_::_=>by simp [Lib.compareBytes,Op.bytesLess]
  |_::_,[]=>by simp [Lib.compareBytes,Op.bytesLess]
  |x::a,y::b=>by
    have ih:=so_cmp_bytes a b
    simp only [Lib.compareBytes,Op.bytesLess]
    by_cases h1:x<y
    · have hne:x≠y:=fun e=>by subst e;exact absurd h1 (UInt8.lt_irrefl x)
      simp [h1,hne]
    · by_cases h2:y<x
      · have hne:x≠y:=fun e=>by subst e;exact absurd h2 (UInt8.lt_irrefl x)
        simp [h1,h2,hne]
      · have e:x=y:=UInt8.le_antisymm (UInt8.not_lt.1 h2) (UInt8.not_lt.1 h1)
        subst e
        simp [h1,ih]
def so_cmpI (a b:Int):Int:=if a<b then -1 else if b<a then 1 else 0
theorem so_cmp_Compare_eq (a b:Int):cmp_Compare_int.f a b=some (so_cmpI a b):=by
  simp only [cmp_Compare_int.f,cmp_isNaN_int.f,Option.bind_some,bne_self_eq_false,Bool.false_eq_true,if_false,so_cmpI]
  split
  · rfl
  · split<;> rfl
def so_ordS (s t:S32):Int:=if so_cmpI s.f0 t.f0≠0 then so_cmpI s.f0 t.f0 else if Lib.compareBytes s.f1.data.toList t.f1.data.toList≠0 then Lib.compareBytes s.f1.data.toList t.f1.data.toList else so_cmpI s.f2 t.f2
/-- One step is in front of another one. -/
def so_sLt (s t:S32):Bool:=if s.f0=t.f0 then (if s.f1.toList=t.f1.toList then decide (s.f2<t.f2) else Op.bytesLess s.f1.toList t.f1.toList) else decide (s.f0<t.f0)
theorem so_ordS_lt (s t:S32):(so_ordS s t<0)=(so_sLt s t=true):=by
  simp only [so_ordS,so_sLt,so_cmp_bytes,so_cmpI,Go.Lib.toList_data]
  by_cases h0:s.f0=t.f0
  · rw [h0]
    simp only [Int.lt_irrefl,if_false,ne_eq,not_true_eq_false,if_true]
    by_cases h1:s.f1.data.toList=t.f1.data.toList
    · simp only [if_pos h1,not_true_eq_false,if_false,decide_eq_true_eq]
      apply propext
      constructor
      · intro h
        split at h
        · assumption
        · split at h<;> omega
      · intro h
        rw [if_pos h]
        omega
    · simp only [if_neg h1]
      cases hb:Op.bytesLess s.f1.data.toList t.f1.data.toList<;> simp
  · simp only [if_neg h0]
    by_cases h1:s.f0<t.f0
    · simp [h1]
    · simp [h1,show t.f0<s.f0 by omega]
theorem so_bl_irr:∀l,Op.bytesLess l l=false
  |[]=>rfl
  |a::x=>by
    unfold Op.bytesLess
    simp [so_bl_irr x]
theorem so_bl_cons (a b:UInt8) (x y:List UInt8):Op.bytesLess (a::x) (b::y)=true↔a.toNat<b.toNat∨(a=b∧Op.bytesLess x y=true):=by
  rw [show Op.bytesLess (a::x) (b::y)=(decide (a<b)||(a==b&&Op.bytesLess x y)) from rfl]
  simp [UInt8.lt_iff_toNat_lt]
theorem so_bl_trans:∀x y z,Op.bytesLess x y=true→Op.bytesLess y z=true→Op.bytesLess x z=true
  |_,[],_,h,_=>by simp [Op.bytesLess] at h
  |_,_::_,[],_,h=>by simp [Op.bytesLess] at h
  |[],_::_,_::_,_,_=>rfl
  |a::x,b::y,c::z,h,k=>by
    rw [so_bl_cons] at h k ⊢
    rcases h with h|⟨rfl,h⟩
    · rcases k with k|⟨rfl,k⟩
      · exact .inl (by omega)
      · exact .inl h
    · rcases k with k|⟨rfl,k⟩
      · exact .inl k
      · exact .inr ⟨rfl,so_bl_trans x y z h k⟩
theorem so_bl_tri:∀x y,x=y∨Op.bytesLess x y=true∨Op.bytesLess y x=true
  |[],[]=> .inl rfl
  |[],_::_=> .inr (.inl rfl)
  |_::_,[]=> .inr (.inr rfl)
  |a::x,b::y=>by
    rw [so_bl_cons,so_bl_cons]
    rcases Nat.lt_trichotomy a.toNat b.toNat with h|h|h
    · exact .inr (.inl (.inl h))
    · have e:a=b:=UInt8.toNat_inj.1 h
      subst e
      rcases so_bl_tri x y with h|h|h
      · exact .inl (by rw [h])
      · exact .inr (.inl (.inr ⟨rfl,h⟩))
      · exact .inr (.inr (.inr ⟨rfl,h⟩))
    · exact .inr (.inr (.inl h))
/-- What two steps are told apart by. -/
def so_sameKey (s t:S32):Prop:=s.f0=t.f0∧s.f1.toList=t.f1.toList∧s.f2=t.f2
theorem so_sLt_iff (s t:S32):so_sLt s t=true↔s.f0<t.f0∨(s.f0=t.f0∧(Op.bytesLess s.f1.toList t.f1.toList=true∨(s.f1.toList=t.f1.toList∧s.f2<t.f2))):=by
  unfold so_sLt
  by_cases h0:s.f0=t.f0
  · rw [if_pos h0]
    by_cases h1:s.f1.toList=t.f1.toList
    · rw [if_pos h1,h1,so_bl_irr,decide_eq_true_iff]
      simp [h0]
    · rw [if_neg h1]
      simp [h0,h1]
  · rw [if_neg h0,decide_eq_true_iff]
    simp [h0]
theorem so_sLt_irr (s:S32):so_sLt s s=false:=by
  rw [Bool.eq_false_iff,ne_eq,so_sLt_iff,so_bl_irr]
  simp
theorem so_sLt_trans (s t u:S32) (h:so_sLt s t=true) (k:so_sLt t u=true):so_sLt s u=true:=by
  rw [so_sLt_iff] at h k ⊢
  rcases h with h|⟨e,h⟩
  · rcases k with k|⟨e',k⟩
    · exact .inl (by omega)
    · exact .inl (by omega)
  · rcases k with k|⟨e',k⟩
    · exact .inl (by omega)
    · refine .inr ⟨e.trans e',?_⟩
      rcases h with h|⟨f,h⟩
      · rcases k with k|⟨f',k⟩
        · exact .inl (so_bl_trans _ _ _ h k)
        · exact .inl (f'▸h)
      · rcases k with k|⟨f',k⟩
        · exact .inl (f▸k)
        · exact .inr ⟨f.trans f',by omega⟩
theorem so_sLt_tri (s t:S32):so_sameKey s t∨so_sLt s t=true∨so_sLt t s=true:=by
  rw [so_sLt_iff,so_sLt_iff]
  rcases Int.lt_trichotomy s.f0 t.f0 with h|h|h
  · exact .inr (.inl (.inl h))
  · rcases so_bl_tri s.f1.toList t.f1.toList with k|k|k
    · rcases Int.lt_trichotomy s.f2 t.f2 with j|j|j
      · exact .inr (.inl (.inr ⟨h, .inr ⟨k,j⟩⟩))
      · exact .inl ⟨h,k,j⟩
      · exact .inr (.inr (.inr ⟨h.symm, .inr ⟨k.symm,j⟩⟩))
    · exact .inr (.inl (.inr ⟨h, .inl k⟩))
    · exact .inr (.inr (.inr ⟨h.symm, .inl k⟩))
  · exact .inr (.inr (.inl h))
theorem so_sLt_same {s t u v:S32} (h:so_sameKey s t) (k:so_sameKey u v):so_sLt s u=so_sLt t v:=by
  unfold so_sLt
  rw [h.1,h.2.1,h.2.2,k.1,k.2.1,k.2.2]
theorem so_sameKey.symm {s t:S32} (h:so_sameKey s t):so_sameKey t s:=⟨h.1.symm,h.2.1.symm,h.2.2.symm⟩
theorem so_sLt_swo:Sort.SWO so_sLt where
  irrefl:=so_sLt_irr
  trans:=so_sLt_trans
  ntrans:=fun x y z h k=>by
    rcases so_sLt_tri x z with e|e|e
    · rw [so_sLt_same e ⟨rfl,rfl,rfl⟩]
      exact so_sLt_irr z
    · rcases so_sLt_tri x y with f|f|f
      · rw [so_sLt_same f ⟨rfl,rfl,rfl⟩] at e
        rw [e] at k
        cases k
      · rw [f] at h
        cases h
      · have:=so_sLt_trans _ _ _ f e
        rw [this] at k
        cases k
    · rw [Bool.eq_false_iff]
      intro f
      have:=so_sLt_trans _ _ _ e f
      rw [so_sLt_irr] at this
      cases this
theorem so_or (a b c:Int):cmp_Or_int.f 9 [a,b,c]=some (if a≠0 then a else if b≠0 then b else c):=by
  simp only [cmp_Or_int.f]
  rw [show cmp_Or_int.l0 9 0 [a,b,c] (([a,b,c]:List Int).length:Int) 0=_ from rfl]
  simp only [cmp_Or_int.l0,List.length_cons,List.length_nil,show ((0+1+1+1:Nat):Int)=3 from rfl,if_pos (show (0:Int)<3 by omega),if_pos (show (0:Int)≤0 by omega),show rd [a,b,c] 0=a from rfl,show wrap64 (0+1)=1 by unfold wrap64;omega,if_pos (show (1:Int)<3 by omega),if_pos (show (0:Int)≤1 by omega),show rd [a,b,c] 1=b from rfl,show wrap64 (1+1)=2 by unfold wrap64;omega,if_pos (show (2:Int)<3 by omega),if_pos (show (0:Int)≤2 by omega),show rd [a,b,c] 2=c from rfl,show wrap64 (2+1)=3 by unfold wrap64;omega,if_neg (show ¬(3:Int)<3 by omega)]
  by_cases ha:a=0
  · subst ha
    by_cases hb:b=0
    · subst hb
      by_cases hc:c=0
      · subst hc
        simp
      · simp [hc]
    · simp [hb]
  · simp [ha]
theorem so_val (s t:S32):impl_stepOrder.f 9 s.f0 s.f1 s.f2 s.f3 t.f0 t.f1 t.f2 t.f3=some (so_ordS s t):=by
  simp only [impl_stepOrder.f,so_cmp_Compare_eq,strings_Compare.f,Option.bind_some,so_or]
  rfl
theorem so_ltOf:Go.Proofs.ltOf so_ordS=so_sLt:=by
  funext s t
  have h:=so_ordS_lt s t
  unfold Go.Proofs.ltOf
  rw [show decide (so_ordS s t<0)=decide (so_sLt s t=true) by simp only [h]]
  cases so_sLt s t<;> rfl
theorem so_swo:Sort.SWO (Go.Proofs.ltOf so_ordS):=by
  rw [so_ltOf]
  exact so_sLt_swo
theorem so_dn {a:Nat} {W:World} (h:a≤W.drawn) (n:Nat):a≤(W.drewN n).drawn:=Nat.le_trans h (by show W.drawn≤W.drawn+n;omega)
section
variable {P:Program} {ops:Array Oper} {Q:Exit→Act→World→Prop} {rest:List Oper} {o:Oper} {a:Act} {W:World}
theorem so_be {cs:Array Value} {t:TypeId} (h:∀g,g=W.heap.size→∀w1,w1.heap[g]? =some (.cells cs t (0,0))→Below W.heap.size W w1→w1.drawn=W.drawn→wpList P ops Q rest (a.put o.dst (.pointer (some ⟨g,0,none⟩))) w1)
    (hgd:o.guard=none:=by rfl) (hrun:(execOp a.eval o).run P W= .ok (.value (.pointer (some ⟨W.heap.size,0,none⟩))) (W.alloc (.cells cs t (0,0))):=by first|(go_simp;done)|(go_simp;rfl)):wpList P ops Q (o::rest) a W:=
  Kd.event_run hgd hrun (h _ rfl _ (blk_new W _) (below_alloc (Below.refl _ _) _) rfl)
variable {Kc:Act→World→Prop} {α:Type}
theorem so_lit (d:Kd α) {w0 W:World} (base e:Nat) (hw:Region.wanted o (yielded ops a.tmps)=true) {N:Tmp} (_hd:o.dst=some N) {xs:List α} {inner:List Value} {ok okp:Nat→Prop}
    (hrun:(execOp a.eval o).run P W= .ok (.value (.slice (some ⟨W.heap.size,0,none⟩) xs.length xs.length)) (W.alloc (.cells inner.toArray e)))
    (hrep:Reps (d.M W base okp) d.sz xs inner) (hok:∀k,okp k→ok k) (hfresh:ok W.heap.size) (HB:Below base w0 W) (hbase:base≤W.heap.size) (hm:xs.length≤9223372036854775807)
    (h:∀v1 w1,d.R e w1 base ok v1 xs→Below base w0 w1→W.grownBy w1 none→(∃b,v1.ownBlock=some b∧W.heap.size≤b)→w1.drawn=W.drawn→Kc (a.put o.dst v1) w1):if Region.wanted o (yielded ops a.tmps)=true then Oper.wp P o a W Kc Q else Kc (a.put o.dst undef) W:=by
  refine event_step hw hrun (h _ _ ⟨fun k hk=> ?_,inner,?_,?_⟩ (HB.alloc hbase _) (World.grownBy_alloc W _ none) ⟨W.heap.size,by simp [Value.ownBlock],Nat.le_refl _⟩ rfl)
  · have:W.heap.size=k:=by simpa [Value.ownBlock] using hk
    subst this
    exact hfresh
  · have h2:=World.ownsRow_lit (base:=base) (e:=e) (size:=d.sz) W inner.toArray xs.length hbase (by simpa [maxLen] using hm) (by simpa using hrep.1)
    simpa using h2
  · refine hrep.imp_ (fun p c hp=>d.M_mono (fun k hk=>⟨hok k hk.1,fun he=> ?_⟩) (Kd.M_below (d.M_bound hp) (below_alloc (Below.refl _ _) _)))
    have h3:k=W.heap.size:=by simpa [Value.ownBlock] using he
    have:=hk.2.2.1
    omega
end
theorem so_order (k:Nat) (a0_0:Int) (a0_1:ByteArray) (a0_2:Int) (a0_3:Int) (a1_0:Int) (a1_1:ByteArray) (a1_2:Int) (a1_3:Int) (r:Int) (w:World) (h:impl_stepOrder.f k a0_0 a0_1 a0_2 a0_3 a1_0 a1_1 a1_2 a1_3=some r):
  Calls Try.prog 61 #[.agg #[.int .i64 a0_0, .string a0_1, .int .i64 a0_2, .int .i64 a0_3], .agg #[.int .i64 a1_0, .string a1_1, .int .i64 a1_2, .int .i64 a1_3]] w fun e w'=>e= .returned (.int .i64 r)∧Below w.heap.size w w'∧w.drawn≤w'.drawn:=by
 have hu32:=Try.underlying32;have HB:=am (Below.refl w.heap.size w);have HE:=am (Nat.le_refl w.drawn);have H:((cmp_Compare_int.f a0_0 a1_0).bind fun t430=>((strings_Compare.f a0_1 a1_1).bind fun t431=>((cmp_Compare_int.f a0_2 a1_2).bind fun t432=>((cmp_Or_int.f k (([t430,t431,t432]:List Int))).bind fun t436=>(some t436)))))=some r:=h;clear h;obtain ⟨t430,A3,H⟩:=bO H;(try dsimp only at H);obtain ⟨t431,A4,H⟩:=bO H;(try dsimp only at H);obtain ⟨t432,A5,H⟩:=bO H;(try dsimp only at H);obtain ⟨y433,hy433⟩:∃y_:List Int,y_=(([t430,t431,t432]:List Int)):=⟨_,rfl⟩
 replace H:((cmp_Or_int.f k y433).bind fun t436=>(some t436))=some r:=yH hy433 H
 have Ny433:=am hy433;clear hy433;obtain ⟨t436,A6,H⟩:=bO H;(try dsimp only at H);obtain rfl:=Option.some.inj H;go_enter Try.func61,Try.ntmps61;(try go_wp2_with (first|((with_reducible refine gx 2 rfl ?_);refine so_be (cs:= #[.int .i64 a0_0, .string a0_1, .int .i64 a0_2, .int .i64 a0_3]) (t:=32) ?_;intro gb428 hg w7 hbox hb hE_;replace HE:=am (Nat.le_trans HE.out (Nat.le_of_eq hE_.symm));clear hE_;have BK428:=am (hbox);have GW428:=gs hg (bz HB.out);have GE428:=gs hg (bz HB.out);replace HB:=hs HB hb;clear hb hbox hg)|((with_reducible refine gx 3 rfl ?_);refine so_be (cs:= #[.int .i64 a1_0, .string a1_1, .int .i64 a1_2, .int .i64 a1_3]) (t:=32) ?_;intro gb429 hg w8 hbox hb hE_;replace HE:=am (Nat.le_trans HE.out (Nat.le_of_eq hE_.symm));clear hE_;have BK429:=am (hbox);have GW429:=gs hg (bw HB.out);have GE429:=gs hg (bw HB.out);replace HB:=hs HB hb;have NB428_429:=nl hg (kz BK428.out);have NB429_428:=nr hg (kz BK428.out);replace BK428:=bk BK428 hb;clear hb hbox hg)));replace BK428:=am (blk_drew BK428.out);replace BK429:=am (blk_drew BK429.out);replace HB:=am (below_drew1 HB.out);refine start_ (n:=18) (S:=fun w'=>w'.cell? ⟨gb428,0,none⟩=some (.int .i64 a0_0)∧w'.cell? ⟨gb428,1,none⟩=some (.string a0_1)∧w'.cell? ⟨gb428,2,none⟩=some (.int .i64 a0_2)∧w'.cell? ⟨gb428,3,none⟩=some (.int .i64 a0_3)∧w'.cell? ⟨gb429,0,none⟩=some (.int .i64 a1_0)∧w'.cell? ⟨gb429,1,none⟩=some (.string a1_1)∧w'.cell? ⟨gb429,2,none⟩=some (.int .i64 a1_2)∧w'.cell? ⟨gb429,3,none⟩=some (.int .i64 a1_3)) (ds:=[]) (mkp 18 0) (by kernel_rfl) rfl rfl (b4 BK428 (b4e BK429)) (fun hHeld=> ?_);refine with_tabW impl_stepOrder.tab1 impl_stepOrder.bits1 (fun HT_ HW_=> ?_);replace HE:=am (show w.drawn≤w8.drew.drawn from Nat.le_succ_of_le HE.out);generalize w8.drew=w9 at BK428 BK429 HB hHeld HE ⊢;refine qv HT_ ?_;refine pv 2 7 18 5 HT_ ?_;refine pv 5 10 18 37 HT_ ?_;refine pv 7 12 18 165 HT_ ?_;refine pv 10 15 18 1189 HT_ ?_;refine pv 12 17 18 5285 HT_ ?_;refine tkm 1 6 (mk 18 5287) HT_ HW_ hHeld ?_;refine tkm 3 8 (mk 18 5295) HT_ HW_ hHeld ?_;refine tkm 6 11 (mk 18 5359) HT_ HW_ hHeld ?_;refine tkm 8 13 (mk 18 5615) HT_ HW_ hHeld ?_;refine tkm 11 16 (mk 18 7663) HT_ HW_ hHeld ?_;refine tkm 13 18 (mk 18 15855) HT_ HW_ hHeld ?_;refine on 4 (mk 18 15871) HT_ (fun K hK=> ?_);refine gr Try.func86 #[.int .i64 a0_0, .int .i64 a1_0] ?_
 with_reducible refine (cmp_Compare_int.calls a0_0 a1_0 t430 _ A3.out).mono ?_
 rintro e w' ⟨rfl,⟨nd,rfl⟩⟩;refine ⟨_,rfl,?_⟩;refine hK.out _ _ (b4 BK428 (b4e BK429)) (fun hHeld=> ?_);clear hK K;refine norm_ (a':= ?_) ?_ ?_;rotate_left
 ·show Act.put _ (some 9) _=_;simp only [Act.put,List.setIfInBounds_toArray,List.set_cons_zero,List.set_cons_succ,i64_w,i32_w];rfl
 refine on 9 (mkp 18 14) HT_ (fun K hK=> ?_);refine gr Try.func87 #[.string a0_1, .string a1_1] ?_
 with_reducible refine (strings_Compare.calls a0_1 a1_1 t431 _ A4.out).mono ?_
 rintro e w' ⟨rfl,⟨nd,rfl⟩⟩;refine ⟨_,rfl,?_⟩;refine hK.out _ _ (b4 BK428 (b4e BK429)) (fun hHeld=> ?_);clear hK K;refine norm_ (a':= ?_) ?_ ?_;rotate_left
 ·show Act.put _ (some 14) _=_;simp only [Act.put,List.setIfInBounds_toArray,List.set_cons_zero,List.set_cons_succ,i64_w,i32_w];rfl
 refine on 14 (mkp 18 15) HT_ (fun K hK=> ?_);refine gr Try.func86 #[.int .i64 a0_2, .int .i64 a1_2] ?_
 with_reducible refine (cmp_Compare_int.calls a0_2 a1_2 t432 _ A5.out).mono ?_
 rintro e w' ⟨rfl,⟨nd,rfl⟩⟩;refine ⟨_,rfl,?_⟩;refine hK.out _ _ (b4 BK428 (b4e BK429)) (fun hHeld=> ?_);clear hK K;refine norm_ (a':= ?_) ?_ ?_;rotate_left
 ·show Act.put _ (some 19) _=_;simp only [Act.put,List.setIfInBounds_toArray,List.set_cons_zero,List.set_cons_succ,i64_w,i32_w];rfl
 refine on 15 (mkp 18 16) HT_ (fun K hK=> ?_);refine so_lit (Kd.int .i64) _ 3 ?hg (N:=20) ?hd (xs:=([t430,t431,t432]:List Int)) (inner:=[.int .i64 t430, .int .i64 t431, .int .i64 t432]) (ok:=fun _=>True) (okp:=fun _=>True) ?hr ?hp (fun _ hk=>hk) trivial (Below.refl _ _) (Nat.le_refl _) (by simp) ?_;(case hd=>rfl);(case hg=>rfl);(case hr=>first|(go_simp;done)|(go_simp;rfl));(case hp=>exact (Reps.one (show Kd.M (Kd.int .i64) _ _ _ t430 [.int .i64 t430] from rfl) (Reps.one (show Kd.M (Kd.int .i64) _ _ _ t431 [.int .i64 t431] from rfl) (Reps.one (show Kd.M (Kd.int .i64) _ _ _ t432 [.int .i64 t432] from rfl) (Reps.none _ _)))));intro v434 w10 ho11 hb hg_ hnew_ hE_;replace HE:=am (Nat.le_trans (so_dn (so_dn (so_dn HE.out _) _) _) (Nat.le_of_eq hE_.symm));clear hg_ hnew_ hE_;(first|rw [←Ny433.out] at ho11|(simp only [Int.reduceToNat] at ho11;rw [←Ny433.out] at ho11));have HO435:=am (Kd.R_lower ho11 (below_size (bw HB.out)));replace BK428:=bk BK428 hb;replace BK429:=bk BK429 hb;replace HB:=hs HB hb;clear hb ho11;obtain ⟨Ao12,co12,eo12⟩:=Kd.R_slice HO435.out;(first|subst eo12|(injection eo12 with f1_ f2_ f3_;have f4_:=f1_.symm;have f5_:=f3_.symm;clear f1_ f2_ f3_;subst f4_;subst f5_));refine hK.out _ _ (b4 BK428 (b4e BK429)) (fun hHeld=> ?_);clear hK K;refine norm_ (a':= ?_) ?_ ?_;rotate_left
 ·show Act.put _ (some 20) _=_;simp only [Act.put,List.setIfInBounds_toArray,List.set_cons_zero,List.set_cons_succ,i64_w,i32_w];rfl
 refine on 16 (mkp 18 17) HT_ (fun K hK=> ?_);refine gr Try.func85 #[.slice Ao12 y433.length co12] ?_
 with_reducible refine (cmp_Or_int.calls k _ _ y433 t436 _ ?_ ?_ A6.out).mono ?_
 exact kC HO435;exact kL HO435;rintro e w' ⟨rfl,⟨nd,rfl⟩⟩;refine ⟨_,rfl,?_⟩;refine hK.out _ _ (b4 BK428 (b4e BK429)) (fun hHeld=> ?_);clear hK K;refine norm_ (a':= ?_) ?_ ?_;rotate_left
 ·show Act.put _ (some 21) _=_;simp only [Act.put,List.setIfInBounds_toArray,List.set_cons_zero,List.set_cons_succ,i64_w,i32_w];rfl
 refine qv HT_ ?_;refine done_ (done_of HT_.out (by kernel_rfl)) ?_;(try go_wp2);go_ret;exact ⟨by first|rfl|(simp [*];done),by exact bw HB.out,so_dn HE.out _⟩
instance:Inhabited S32:=⟨z32⟩
def so_enc (x:S32):List Value:=[.int .i64 x.f0, .string x.f1, .int .i64 x.f2, .int .i64 x.f3]
theorem so_lays (blk off size:Nat) (w:World):CmpLays Try.prog 61 #[] so_enc 4 so_ordS blk off size w:=fun m os dk _ x y=>by
  refine (so_order 9 _ _ _ _ _ _ _ _ _ _ (so_val x y)).mono ?_
  rintro e w' ⟨rfl,hb,hd⟩
  obtain ⟨p,rfl⟩:=regrown_of_below hb
  generalize sortWorldK so_enc 4 w blk off m dk os=W at*
  refine ⟨rfl,p.d - W.drawn,p.os,?_⟩
  have hd:W.drawn≤p.d:=hd
  have e:redrawn W p.d=W.drewN (p.d - W.drawn):=by
    show ({W with drawn:=p.d}:World)= {W with drawn:=W.drawn+(p.d - W.drawn)}
    rw [Nat.add_sub_cancel' hd]
  rw [e]
/-- Steps, sorted as the library does. -/
def slices_SortFunc_Step_at_impl_stepOrder.srt (l:List S32):List S32:=(Sort.pdq (Go.Proofs.ltOf so_ordS) l.toArray 0 l.toArray.size (Lib.bitLen l.toArray.size) true true).toList
theorem slices_SortFunc_Step_at_impl_stepOrder.perm (l:List S32):Sort.PermIn 0 l.toArray.size l.toArray (slices_SortFunc_Step_at_impl_stepOrder.srt l).toArray∧Sort.SortedIn (Go.Proofs.ltOf so_ordS) 0 l.toArray.size (slices_SortFunc_Step_at_impl_stepOrder.srt l).toArray:=by
  have h:=Sort.pdq_sorts (Go.Proofs.ltOf so_ordS) so_swo l.toArray 0 l.toArray.size (Lib.bitLen l.toArray.size) true true (Nat.zero_le _) (Nat.le_refl _) (Or.inl rfl)
  unfold slices_SortFunc_Step_at_impl_stepOrder.srt
  rw [Array.toArray_toList]
  exact h
def slices_SortFunc_Step_at_impl_stepOrder.f (l0:List S32):Option (List S32):=if l0.length≤1000 then some (slices_SortFunc_Step_at_impl_stepOrder.srt l0) else none
theorem so_M (w:World) (base:Nat) (ok:Nat→Prop) (x:S32) (cs:List Value) (h:k32.M w base ok x cs):cs=so_enc x:=k32_openM h
theorem so_flat (xs:List S32) (j:Nat) (hj:j<xs.length) (i:Nat) (hi:i<4):(Sort.flatK so_enc 4 xs.toArray)[j*4+i]! =(so_enc xs[j])[i]! :=by
  rw [Sort.get_flatK _ _ _ _ (by simpa using rowl_lt hj hi),show (j*4+i) / 4=j by omega,show (j*4+i) % 4=i by omega,getElem!_pos xs.toArray j (by simpa using hj)]
  rfl
set_option maxHeartbeats 1000000 in
theorem slices_SortFunc_Step_at_impl_stepOrder.calls (P0_:Nat→Prop) (u9000_:Value) (l0:List S32) (r:List S32) (w0 w:World) (hB:Below w0.heap.size w0 w) (ho0:Kd.R k32 32 w w0.heap.size P0_ u9000_ l0) (h:slices_SortFunc_Step_at_impl_stepOrder.f l0=some r):
    Calls Try.prog 72 #[u9000_, .func (.func 61) #[] #[]] w fun e w'=>e= .returned (.tuple #[])∧Kd.R k32 32 w' w0.heap.size (fun k_=>(P0_ k_∨w.heap.size≤k_)) u9000_ r∧Below w0.heap.size w0 w'∧Kept w w' (fun k_=>P0_ k_):=by
  unfold slices_SortFunc_Step_at_impl_stepOrder.f at h
  split at h
  · rename_i hl
    obtain rfl:=Option.some.inj h
    obtain ⟨A,c,rfl⟩:=Kd.R_slice ho0
    cases A with
    |none=>
      have e:l0=[]:=by
        obtain ⟨_,hr⟩:=Kd.R_reads' ho0
        cases l0 with
        |nil=>rfl
        |cons x xs=>
          obtain ⟨ad,e,_⟩:=hr.2.2.2 (by simp)
          cases e
      subst e
      refine (AnyF.slices_SortFunc_none Try.sortStep none c _ w).mono ?_
      rintro e w' ⟨rfl,rfl⟩
      have e0:slices_SortFunc_Step_at_impl_stepOrder.srt []=[]:=List.eq_nil_of_length_eq_zero (by have:=(slices_SortFunc_Step_at_impl_stepOrder.perm []).1.1;simpa using this)
      rw [e0]
      exact ⟨rfl,Kd.R_mono ho0 (fun _ hk=> .inl hk),hB,Kept.refl _ _⟩
    |some ad=>
      obtain ⟨g,rfl⟩:∃g,ad=⟨g,0,none⟩:=by
        obtain ⟨_,inner,ho,_⟩:=ho0
        rcases ho.2 with ⟨he,_⟩|⟨g,cap,cur,he,_⟩
        · cases he
        · injection he with h1
          injection h1 with h1
          exact ⟨g,h1⟩
      obtain ⟨cur,hP,hbase,_,_,_,hh,_,_⟩:=rowl_parts ho0
      have hg:g<w.heap.size:=(Array.getElem?_eq_some_iff.1 hh).1
      have hH:Sort.HoldsK so_enc 4 w g 0 l0.toArray:=fun t ht=>by
        have ht':t<l0.length*4:=by simpa using ht
        have hj:t / 4<l0.length:=by omega
        have hc:=rowl_cell ho0 so_M (t / 4) hj (t % 4) (Nat.mod_lt _ (by decide))
        rw [show k32.sz=4 from rfl,show t / 4*4+t % 4=t by omega] at hc
        have e:=so_flat l0 (t / 4) hj (t % 4) (Nat.mod_lt _ (by decide))
        rw [show t / 4*4+t % 4=t by omega] at e
        rw [Nat.zero_add]
        refine ⟨?_,hc.2⟩
        show _=some ((Sort.flatK so_enc 4 l0.toArray)[t]!)
        rw [hc.1,e,getElem!_pos (so_enc l0[t / 4]) (t % 4) (by show t % 4<4;omega),List.getElem?_eq_getElem]
      have eg:∀args w,(callFunc 61 args).run Try.prog w= .ok (.enter 61 args) w:=Go.Proofs.enters_of Try.func61 (by kernel_rfl) rfl
      have hcon:=AnyQ.slices_SortFunc_eq Try.sortStep 4 Try.isAgg32 Try.sizeOf32 so_enc (fun _=>rfl) (fun x v hv=>by simp [so_enc] at hv;rcases hv with rfl|rfl|rfl|rfl<;> rfl) so_ordS so_swo 61 #[] g 0 c l0.toArray w eg (so_lays g 0 _ w) hH hg (by simp;omega)
      refine (show Calls Try.prog 72 _ w _ from hcon).mono ?_
      rintro e w' ⟨rfl,m,os,rfl⟩
      have hsz:(slices_SortFunc_Step_at_impl_stepOrder.srt l0).length=l0.length:=by
        have:=(slices_SortFunc_Step_at_impl_stepOrder.perm l0).1.1
        simpa using this
      obtain ⟨hR,hG⟩:=rowl_put ho0 (fun w base ok x=>k32_mkM w base ok x) (enc:=so_enc) (fun _=>rfl) (by decide) (slices_SortFunc_Step_at_impl_stepOrder.srt l0) hsz m os (Sort.putCells id 0 (Sort.flatK so_enc 4 (slices_SortFunc_Step_at_impl_stepOrder.srt l0).toArray)) (fun c=>by simp [Sort.putCells]) (fun c j hj i hi hlt=>by
        have hi:i<4:=hi
        show (Sort.putCells id 0 (Sort.flatK so_enc 4 (slices_SortFunc_Step_at_impl_stepOrder.srt l0).toArray) c)[j*4+i]? =_
        have hlt:j*4+i<c.size:=hlt
        simp only [Sort.putCells,Array.getElem?_mapIdx,Array.getElem?_eq_getElem hlt,Option.map_some]
        rw [if_pos ⟨Nat.zero_le _,by simpa using rowl_lt hj hi⟩,Nat.sub_zero]
        show some ((Sort.flatK so_enc 4 (slices_SortFunc_Step_at_impl_stepOrder.srt l0).toArray)[j*4+i]!)=_
        rw [so_flat _ j hj i hi,getElem!_pos (so_enc _) i (by show i<4;omega),List.getElem?_eq_getElem])
      have e1:(slices_SortFunc_Step_at_impl_stepOrder.srt l0).toArray=Sort.pdq (Go.Proofs.ltOf so_ordS) l0.toArray 0 l0.toArray.size (Lib.bitLen l0.toArray.size) true true:=by unfold slices_SortFunc_Step_at_impl_stepOrder.srt;rw [Array.toArray_toList]
      rw [e1] at hR hG
      refine ⟨rfl,Kd.R_mono hR (fun _ hk=> .inl hk),pw_below_grown hB (some g) hB.size hG (fun k hk=>by injection hk with hk;subst hk;exact hbase),Kept.of_grown hG (Kept.refl _ _) (fun k hk=>by injection hk with hk;subst hk;exact .inl hP)⟩
  · cases h


/-! ### impl_made: function 37 -/
def impl_made.f (k:Nat) (a0:Int) (l1:List Int) (l2:List Int) (l3:List (S32)):Option (Int×List Int×List Int×(List (S32))×Bool):=(slices_Clone_int_int.f l1).bind fun t145=>((slices_Clone_int_int.f l2).bind fun t148=>((slices_Clone_Step.f l3).bind fun t151=>((slices_Sort_int_int.f t145).bind fun t155=>((slices_Sort_int_int.f t148).bind fun t156=>((slices_SortFunc_Step_at_impl_stepOrder.f t151).bind fun t157=>((impl_AutomatonValid.f k a0 t155 t156 t157).bind fun t158=>(if t158=true then (some (a0,t155,t156,t157,true)) else (some (0,([]:List Int),([]:List Int),([]:List (S32)),false)))))))))
theorem impl_made.mono:∀a0 a1 a2 a3 k,LeO (impl_made.f k a0 a1 a2 a3) (impl_made.f (k+1) a0 a1 a2 a3):=by
 intro a0 a1 a2 a3 k;unfold impl_made.f;repeat' with_reducible first|exact impl_AutomatonValid.mono _ _ _ _ _|exact LeO.refl _|exact LeO.none _|refine LeO.ite ?_ ?_|refine LeO.bind ?_ (fun _=> ?_)
theorem impl_made.calls (k:Nat) (a0:Int) (A1:Option Addr) (c1:Nat) (l1:List Int) (A2:Option Addr) (c2:Nat) (l2:List Int) (A3:Option Addr) (c3:Nat) (l3:List (S32)) (r1:Int) (r2:List Int) (r3:List Int) (r4:List (S32)) (r5:Bool) (w:World) (hr1:Kd.C (Kd.int .i64) w A1 l1.length l1) (hc1:l1.length≤c1) (hr2:Kd.C (Kd.int .i64) w A2 l2.length l2) (hc2:l2.length≤c2) (hr3:Kd.C k32 w A3 l3.length l3) (hc3:l3.length≤c3) (h:impl_made.f k a0 l1 l2 l3=some (r1,r2,r3,r4,r5)):
  Calls Try.prog 37 #[.int .i64 a0, .slice A1 l1.length c1, .slice A2 l2.length c2, .slice A3 l3.length c3] w fun e w'=>∃v1_ v2_ v3_:Value,e= .returned (.tuple #[.agg #[.int .i64 r1,v1_,v2_,v3_], .bool r5])∧Kd.R (Kd.int .i64) 3 w' w.heap.size (fun k_=>some k_≠(v2_:Value).ownBlock) v1_ r2∧Kd.R (Kd.int .i64) 3 w' w.heap.size (fun k_=>some k_≠(v1_:Value).ownBlock) v2_ r3∧Kd.R k32 32 w' w.heap.size (fun _=>True) v3_ r4∧Below w.heap.size w w':=by
 have hu26:=Try.underlying26;have HR1:=am hr1;have HC1:=am hc1;clear hr1 hc1;have HR2:=am hr2;have HC2:=am hc2;clear hr2 hc2;have HR3:=am hr3;have HC3:=am hc3;clear hr3 hc3;have HB:=am (Below.refl w.heap.size w);have H:((slices_Clone_int_int.f l1).bind fun t145=>((slices_Clone_int_int.f l2).bind fun t148=>((slices_Clone_Step.f l3).bind fun t151=>((slices_Sort_int_int.f t145).bind fun t155=>((slices_Sort_int_int.f t148).bind fun t156=>((slices_SortFunc_Step_at_impl_stepOrder.f t151).bind fun t157=>((impl_AutomatonValid.f k a0 t155 t156 t157).bind fun t158=>(if t158=true then (some (a0,t155,t156,t157,true)) else (some (0,([]:List Int),([]:List Int),([]:List (S32)),false))))))))))=some (r1,r2,r3,r4,r5):=h;clear h;obtain ⟨t145,A5,H⟩:=bO H;(try dsimp only at H);obtain ⟨t148,A6,H⟩:=bO H;(try dsimp only at H);obtain ⟨t151,A7,H⟩:=bO H;(try dsimp only at H);obtain ⟨t155,A8,H⟩:=bO H;(try dsimp only at H);obtain ⟨t156,A9,H⟩:=bO H;(try dsimp only at H);obtain ⟨t157,A10,H⟩:=bO H;(try dsimp only at H);obtain ⟨t158,A11,H⟩:=bO H;(try dsimp only at H);by_cases c12:t158=true
 ·subst c12
  have H1:(some (a0,t155,t156,t157,true))=some (r1,r2,r3,r4,r5):=by rw [if_pos rfl] at H;exact H
  clear H;have H:=H1;clear H1;simp only [Option.some.injEq,Prod.mk.injEq] at H;obtain ⟨rfl,rfl,rfl,rfl,rfl⟩:=H;go_enter Try.func37,Try.ntmps37;go_wp2_with (first|((with_reducible refine gx 8 rfl ?_);refine be (cs:= #[.int .i64 0, .slice none 0 0, .slice none 0 0, .slice none 0 0]) (t:=26) ?_;intro gb144 hg w13 hbox hb;have BK144:=am (hbox);have GW144:=gs hg (bz HB.out);have GE144:=gs hg (bz HB.out);replace HB:=hs HB hb;clear hb hbox hg)|((with_reducible refine gy 70 rfl ?_);refine gl Try.func70 #[.slice A2 l2.length c2] ?_;(with_reducible refine (slices_Clone_int_int.calls _ _ l2 t148 _ ?_ ?_ A6.out).mono ?_);exact cc (Kd.C_below HR2.out HB.out);exact HC2.out;rintro e w15 ⟨v149,rfl,ho0,hb⟩;refine ⟨_,rfl,?_⟩;have HO150:=am (Kd.R_lower (Kd.R_new' ho0 (Kd.R_lt (rz HO147.out))) (below_size (bw HB.out)));replace HO147:=el HO147 (Kd.R_base ho0) hb;replace BK144:=bk BK144 hb;replace HB:=hs HB hb;(try clear hb);(try clear ho0))|((with_reducible refine gy 70 rfl ?_);refine gl Try.func70 #[.slice A1 l1.length c1] ?_;(with_reducible refine (slices_Clone_int_int.calls _ _ l1 t145 _ ?_ ?_ A5.out).mono ?_);exact cc (Kd.C_below HR1.out HB.out);exact HC1.out;rintro e w14 ⟨v146,rfl,ho0,hb⟩;refine ⟨_,rfl,?_⟩;have HO147:=am (Kd.R_lower ho0 (below_size (bw HB.out)));replace BK144:=bk BK144 hb;replace HB:=hs HB hb;(try clear hb);(try clear ho0))|((with_reducible refine gy 39 rfl ?_);refine gl Try.func39 #[.slice A3 l3.length c3] ?_;(with_reducible refine (slices_Clone_Step.calls _ _ l3 t151 _ ?_ ?_ A7.out).mono ?_);exact cc (Kd.C_below HR3.out HB.out);exact HC3.out;rintro e w16 ⟨v152,rfl,ho0,hb⟩;refine ⟨_,rfl,?_⟩;replace HO147:=rb HO147 hb;replace HO150:=rb HO150 hb;have HO153:=am (Kd.R_lower ho0 (below_size (bw HB.out)));replace BK144:=bk BK144 hb;replace HB:=hs HB hb;(try clear hb);(try clear ho0);obtain ⟨Ao17,co17,eo17⟩:=Kd.R_slice HO153.out;subst eo17;obtain ⟨Ao18,co18,eo18⟩:=Kd.R_slice HO150.out;subst eo18;obtain ⟨Ao19,co19,eo19⟩:=Kd.R_slice HO147.out;subst eo19)|((with_reducible refine gx 10 rfl ?_);refine be (cs:= #[.int .i64 0, .slice none 0 0, .slice none 0 0, .slice none 0 0]) (t:=26) ?_;intro gb154 hg w20 hbox hb;replace HO147:=rb HO147 hb;replace HO150:=rb HO150 hb;replace HO153:=rb HO153 hb;have BK154:=am (hbox);have GW154:=gs hg (bw HB.out);have GE154:=gs hg (bw HB.out);replace HB:=hs HB hb;have NB144_154:=nl hg (kz BK144.out);have NB154_144:=nr hg (kz BK144.out);replace BK144:=bk BK144 hb;clear hb hbox hg;have hnb21:=NB154_144.out;have hnc21:=NB144_154.out;have hz22:=zf4 BK154.out)|((with_reducible refine gate_store (t:=26) (p:=10) rfl ?_);refine store_event (t:=26) (p:=10) (v:= ?vo_w23) (w1:=((((w20.setCell ⟨gb154,0,none⟩ (.int .i64 a0)).setCell ⟨gb154,1,none⟩ (.slice Ao19 t145.length co19)).setCell ⟨gb154,2,none⟩ (.slice Ao18 t148.length co18)).setCell ⟨gb154,3,none⟩ (.slice Ao17 t151.length co17))) ?hg ?ho ?hn ?hr ?_;(case ho=>rfl);(case hg=>rfl);(case hn=>rfl);(case hr=>first|(go_simp;done)|(go_simp;rfl));intro w23 hw;replace HO147:Aside0 (Kd.R (Kd.int .i64) 3 w23 w.heap.size (fun k_=>NS Ao18 t148 co18 k_) (.slice Ao19 t145.length co19) t145):=⟨(by rw [hw];exact (rq (Kd.R_mono (q4 HO147.out BK154.out (by decide)) (fun _ hk=>hk.2))))⟩;replace HO150:Aside0 (Kd.R (Kd.int .i64) 3 w23 w.heap.size (fun k_=>NS Ao19 t145 co19 k_) (.slice Ao18 t148.length co18) t148):=⟨(by rw [hw];exact (rq (Kd.R_mono (q4 HO150.out BK154.out (by decide)) (fun _ hk=>hk.2))))⟩;replace HO153:Aside0 (Kd.R k32 32 w23 w.heap.size (fun _=>True) (.slice Ao17 t151.length co17) t151):=⟨(by rw [hw];exact (rq (Kd.R_mono (q4 HO153.out BK154.out (by decide)) (fun _ hk=>trivial))))⟩;replace BK144:Aside0 (w23.heap[gb144]? =some (.cells #[.int .i64 0, .slice none 0 0, .slice none 0 0, .slice none 0 0] 26 (0,0))):=⟨(by rw [hw];exact (kf BK144.out))⟩;replace BK154:Aside0 (w23.heap[gb154]? =some (.cells #[.int .i64 a0, .slice Ao19 t145.length co19, .slice Ao18 t148.length co18, .slice Ao17 t151.length co17] 26 (0,0))):=⟨(by rw [hw];exact (kp BK154.out))⟩;replace HB:Aside0 (Below w.heap.size w w23):=⟨(by rw [hw];exact (bw HB.out))⟩;clear hw;have hz24:=zf4 BK154.out)|((with_reducible refine gy 71 rfl ?_);refine gl Try.func71 #[.slice Ao18 t148.length co18] ?_;(with_reducible refine (slices_Sort_int_int.calls (fun k_=>some k_=(.slice Ao18 t148.length co18:Value).ownBlock) (.slice Ao18 t148.length co18) t148 t156 w _ ?_ ?_ A9.out).mono ?_);exact bw HB.out;exact Kd.R_tight rfl HO150.out;rintro e w27 ⟨rfl,hy0,hb,hkp⟩;refine ⟨_,rfl,?_⟩;replace BK144:=am (blk_kept (kz BK144.out) hkp (fun hs_=>(fun e_=>(Kd.R_ne HO150.out BK144.out (by decide)) e_) hs_));replace HO147:=am (Kd.R_mono (ok':=fun k_=>NS Ao18 t148 co18 k_) (Kd.R_keptB (HO147.out) hkp (fun k_ hk_ hs_=>(hk_) hs_)) (fun k_ hk_=>hk_.1));replace HO153:=am (Kd.R_mono (ok':=fun k_=>True) (Kd.R_keptB ((Kd.R_apart' HO153.out (Kd.R_typed HO150.out) (by decide))) hkp (fun k_ hk_ hs_=>(hk_.2) hs_)) (fun k_ hk_=>trivial));replace BK154:=am (blk_kept (kz BK154.out) hkp (fun hs_=>(fun e_=>(Kd.R_ne HO150.out BK154.out (by decide)) e_) hs_));replace HO150:=am (Kd.R_reok rfl hy0 (fun k_ e_=>HO150.out.1 k_ e_));replace HB:=am (hb);(try clear hb);(try clear hkp);(try clear hy0);have hz28:=zf4 BK154.out)|((with_reducible refine gy 71 rfl ?_);refine gl Try.func71 #[.slice Ao19 t145.length co19] ?_;(with_reducible refine (slices_Sort_int_int.calls (fun k_=>some k_=(.slice Ao19 t145.length co19:Value).ownBlock) (.slice Ao19 t145.length co19) t145 t155 w _ ?_ ?_ A8.out).mono ?_);exact bw HB.out;exact Kd.R_tight rfl HO147.out;rintro e w25 ⟨rfl,hy0,hb,hkp⟩;refine ⟨_,rfl,?_⟩;replace BK144:=am (blk_kept (kz BK144.out) hkp (fun hs_=>(fun e_=>(Kd.R_ne HO147.out BK144.out (by decide)) e_) hs_));replace HO150:=am (Kd.R_mono (ok':=fun k_=>NS Ao19 t145 co19 k_) (Kd.R_keptB (HO150.out) hkp (fun k_ hk_ hs_=>(hk_) hs_)) (fun k_ hk_=>hk_.1));replace HO153:=am (Kd.R_mono (ok':=fun k_=>True) (Kd.R_keptB ((Kd.R_apart' HO153.out (Kd.R_typed HO147.out) (by decide))) hkp (fun k_ hk_ hs_=>(hk_.2) hs_)) (fun k_ hk_=>trivial));replace BK154:=am (blk_kept (kz BK154.out) hkp (fun hs_=>(fun e_=>(Kd.R_ne HO147.out BK154.out (by decide)) e_) hs_));replace HO147:=am (Kd.R_reok rfl hy0 (fun k_ e_=>HO147.out.1 k_ e_));replace HB:=am (hb);(try clear hb);(try clear hkp);(try clear hy0);have hz26:=zf4 BK154.out)|((with_reducible refine gy 72 rfl ?_);refine gl Try.func72 #[.slice Ao17 t151.length co17, .func (.func 61) #[] #[]] ?_;(with_reducible refine (slices_SortFunc_Step_at_impl_stepOrder.calls (fun k_=>some k_=(.slice Ao17 t151.length co17:Value).ownBlock) (.slice Ao17 t151.length co17) t151 t157 w _ ?_ ?_ A10.out).mono ?_);exact bw HB.out;exact Kd.R_tight rfl HO153.out;rintro e w29 ⟨rfl,hy0,hb,hkp⟩;refine ⟨_,rfl,?_⟩;replace BK144:=am (blk_kept (kz BK144.out) hkp (fun hs_=>(fun e_=>(Kd.R_ne HO153.out BK144.out (by decide)) e_) hs_));replace HO147:=am (Kd.R_mono (ok':=fun k_=>NS Ao18 t148 co18 k_) (Kd.R_keptB ((Kd.R_apart' HO147.out (Kd.R_typed HO153.out) (by decide))) hkp (fun k_ hk_ hs_=>(hk_.2) hs_)) (fun k_ hk_=>hk_.1.1));replace HO150:=am (Kd.R_mono (ok':=fun k_=>NS Ao19 t145 co19 k_) (Kd.R_keptB ((Kd.R_apart' HO150.out (Kd.R_typed HO153.out) (by decide))) hkp (fun k_ hk_ hs_=>(hk_.2) hs_)) (fun k_ hk_=>hk_.1.1));replace BK154:=am (blk_kept (kz BK154.out) hkp (fun hs_=>(fun e_=>(Kd.R_ne HO153.out BK154.out (by decide)) e_) hs_));replace HO153:=am (Kd.R_reok rfl hy0 (fun k_ e_=>HO153.out.1 k_ e_));replace HB:=am (hb);(try clear hb);(try clear hkp);(try clear hy0);have hz30:=zf4 BK154.out)|((with_reducible refine gy 30 rfl ?_);refine goesL_ (some 29) rfl rfl Try.func30 (by kernel_rfl) rfl #[.agg #[.int .i64 a0, .slice Ao19 t155.length co19, .slice Ao18 t156.length co18, .slice Ao17 t157.length co17]] rfl (by (try simp only [List.map_toArray,List.map_cons,List.map_nil]);first|done|(rw [show t155.length=t145.length from (Kd.R_reads' HO147.out).1.symm,show t156.length=t148.length from (Kd.R_reads' HO150.out).1.symm,show t157.length=t151.length from (Kd.R_reads' HO153.out).1.symm]<;> rfl)|rfl|(simp only [List.length_drop,List.length_take];rfl)) ?_;(with_reducible refine (impl_AutomatonValid.calls k a0 _ _ t155 _ _ t156 _ _ t157 true _ ?_ ?_ ?_ ?_ ?_ ?_ A11.out).mono ?_);exact kC HO147;(·rw [show t155.length=t145.length from (Kd.R_reads' HO147.out).1.symm];exact kL HO147);exact kC HO150;(·rw [show t156.length=t148.length from (Kd.R_reads' HO150.out).1.symm];exact kL HO150);exact kC HO153;(·rw [show t157.length=t151.length from (Kd.R_reads' HO153.out).1.symm];exact kL HO153);rintro e w31 ⟨rfl,hb⟩;refine ⟨_,rfl,?_⟩;replace HO147:=rb HO147 hb;replace HO150:=rb HO150 hb;replace HO153:=rb HO153 hb;replace BK144:=bk BK144 hb;replace BK154:=bk BK154 hb;replace HB:=hs HB hb;(try clear hb);have hz32:=zf4 BK154.out;have hz33:=zf4 BK144.out));refine bodyPost_ret (results_ct rfl _ _ gb144 26 #[.int .i64 a0, .slice Ao19 t145.length co19, .slice Ao18 t148.length co18, .slice Ao17 t151.length co17] (0,0) _ rfl (kp BK144.out) Try.underlying26 rfl (by kernel_rfl)) rfl ?_;exact ⟨_,_,_,by first|rfl|(simp [errW_none,errW_some]<;> rfl)|(simp [*,errW_none,errW_some]<;> rfl),rq (q4 HO147.out BK144.out (by decide)),rq (q4 HO150.out BK144.out (by decide)),rq (Kd.R_mono (q4 HO153.out BK144.out (by decide)) (fun _ hk=>trivial)),by exact bw HB.out⟩
 ·replace c12:=Bool.eq_false_iff.mpr c12;subst c12
  have H1:(some (0,([]:List Int),([]:List Int),([]:List (S32)),false))=some (r1,r2,r3,r4,r5):=by rw [if_neg (show ¬(false=true) by decide)] at H;exact H
  clear H;have H:=H1;clear H1;simp only [Option.some.injEq,Prod.mk.injEq] at H;obtain ⟨rfl,rfl,rfl,rfl,rfl⟩:=H;go_enter Try.func37,Try.ntmps37;go_wp2_with (first|((with_reducible refine gx 8 rfl ?_);refine be (cs:= #[.int .i64 0, .slice none 0 0, .slice none 0 0, .slice none 0 0]) (t:=26) ?_;intro gb144 hg w34 hbox hb;have BK144:=am (hbox);have GW144:=gs hg (bz HB.out);have GE144:=gs hg (bz HB.out);replace HB:=hs HB hb;clear hb hbox hg)|((with_reducible refine gy 70 rfl ?_);refine gl Try.func70 #[.slice A2 l2.length c2] ?_;(with_reducible refine (slices_Clone_int_int.calls _ _ l2 t148 _ ?_ ?_ A6.out).mono ?_);exact cc (Kd.C_below HR2.out HB.out);exact HC2.out;rintro e w36 ⟨v149,rfl,ho0,hb⟩;refine ⟨_,rfl,?_⟩;have HO150:=am (Kd.R_lower (Kd.R_new' ho0 (Kd.R_lt (rz HO147.out))) (below_size (bw HB.out)));replace HO147:=el HO147 (Kd.R_base ho0) hb;replace BK144:=bk BK144 hb;replace HB:=hs HB hb;(try clear hb);(try clear ho0))|((with_reducible refine gy 70 rfl ?_);refine gl Try.func70 #[.slice A1 l1.length c1] ?_;(with_reducible refine (slices_Clone_int_int.calls _ _ l1 t145 _ ?_ ?_ A5.out).mono ?_);exact cc (Kd.C_below HR1.out HB.out);exact HC1.out;rintro e w35 ⟨v146,rfl,ho0,hb⟩;refine ⟨_,rfl,?_⟩;have HO147:=am (Kd.R_lower ho0 (below_size (bw HB.out)));replace BK144:=bk BK144 hb;replace HB:=hs HB hb;(try clear hb);(try clear ho0))|((with_reducible refine gy 39 rfl ?_);refine gl Try.func39 #[.slice A3 l3.length c3] ?_;(with_reducible refine (slices_Clone_Step.calls _ _ l3 t151 _ ?_ ?_ A7.out).mono ?_);exact cc (Kd.C_below HR3.out HB.out);exact HC3.out;rintro e w37 ⟨v152,rfl,ho0,hb⟩;refine ⟨_,rfl,?_⟩;replace HO147:=rb HO147 hb;replace HO150:=rb HO150 hb;have HO153:=am (Kd.R_lower ho0 (below_size (bw HB.out)));replace BK144:=bk BK144 hb;replace HB:=hs HB hb;(try clear hb);(try clear ho0);obtain ⟨Ao38,co38,eo38⟩:=Kd.R_slice HO153.out;subst eo38;obtain ⟨Ao39,co39,eo39⟩:=Kd.R_slice HO150.out;subst eo39;obtain ⟨Ao40,co40,eo40⟩:=Kd.R_slice HO147.out;subst eo40)|((with_reducible refine gx 10 rfl ?_);refine be (cs:= #[.int .i64 0, .slice none 0 0, .slice none 0 0, .slice none 0 0]) (t:=26) ?_;intro gb154 hg w41 hbox hb;replace HO147:=rb HO147 hb;replace HO150:=rb HO150 hb;replace HO153:=rb HO153 hb;have BK154:=am (hbox);have GW154:=gs hg (bw HB.out);have GE154:=gs hg (bw HB.out);replace HB:=hs HB hb;have NB144_154:=nl hg (kz BK144.out);have NB154_144:=nr hg (kz BK144.out);replace BK144:=bk BK144 hb;clear hb hbox hg;have hnb42:=NB154_144.out;have hnc42:=NB144_154.out;have hz43:=zf4 BK154.out)|((with_reducible refine gate_store (t:=26) (p:=10) rfl ?_);refine store_event (t:=26) (p:=10) (v:= ?vo_w44) (w1:=((((w41.setCell ⟨gb154,0,none⟩ (.int .i64 a0)).setCell ⟨gb154,1,none⟩ (.slice Ao40 t145.length co40)).setCell ⟨gb154,2,none⟩ (.slice Ao39 t148.length co39)).setCell ⟨gb154,3,none⟩ (.slice Ao38 t151.length co38))) ?hg ?ho ?hn ?hr ?_;(case ho=>rfl);(case hg=>rfl);(case hn=>rfl);(case hr=>first|(go_simp;done)|(go_simp;rfl));intro w44 hw;replace HO147:Aside0 (Kd.R (Kd.int .i64) 3 w44 w.heap.size (fun k_=>NS Ao39 t148 co39 k_) (.slice Ao40 t145.length co40) t145):=⟨(by rw [hw];exact (rq (Kd.R_mono (q4 HO147.out BK154.out (by decide)) (fun _ hk=>hk.2))))⟩;replace HO150:Aside0 (Kd.R (Kd.int .i64) 3 w44 w.heap.size (fun k_=>NS Ao40 t145 co40 k_) (.slice Ao39 t148.length co39) t148):=⟨(by rw [hw];exact (rq (Kd.R_mono (q4 HO150.out BK154.out (by decide)) (fun _ hk=>hk.2))))⟩;replace HO153:Aside0 (Kd.R k32 32 w44 w.heap.size (fun _=>True) (.slice Ao38 t151.length co38) t151):=⟨(by rw [hw];exact (rq (Kd.R_mono (q4 HO153.out BK154.out (by decide)) (fun _ hk=>trivial))))⟩;replace BK144:Aside0 (w44.heap[gb144]? =some (.cells #[.int .i64 0, .slice none 0 0, .slice none 0 0, .slice none 0 0] 26 (0,0))):=⟨(by rw [hw];exact (kf BK144.out))⟩;replace BK154:Aside0 (w44.heap[gb154]? =some (.cells #[.int .i64 a0, .slice Ao40 t145.length co40, .slice Ao39 t148.length co39, .slice Ao38 t151.length co38] 26 (0,0))):=⟨(by rw [hw];exact (kp BK154.out))⟩;replace HB:Aside0 (Below w.heap.size w w44):=⟨(by rw [hw];exact (bw HB.out))⟩;clear hw;have hz45:=zf4 BK154.out)|((with_reducible refine gy 71 rfl ?_);refine gl Try.func71 #[.slice Ao39 t148.length co39] ?_;(with_reducible refine (slices_Sort_int_int.calls (fun k_=>some k_=(.slice Ao39 t148.length co39:Value).ownBlock) (.slice Ao39 t148.length co39) t148 t156 w _ ?_ ?_ A9.out).mono ?_);exact bw HB.out;exact Kd.R_tight rfl HO150.out;rintro e w48 ⟨rfl,hy0,hb,hkp⟩;refine ⟨_,rfl,?_⟩;replace BK144:=am (blk_kept (kz BK144.out) hkp (fun hs_=>(fun e_=>(Kd.R_ne HO150.out BK144.out (by decide)) e_) hs_));replace HO147:=am (Kd.R_mono (ok':=fun k_=>NS Ao39 t148 co39 k_) (Kd.R_keptB (HO147.out) hkp (fun k_ hk_ hs_=>(hk_) hs_)) (fun k_ hk_=>hk_.1));replace HO153:=am (Kd.R_mono (ok':=fun k_=>True) (Kd.R_keptB ((Kd.R_apart' HO153.out (Kd.R_typed HO150.out) (by decide))) hkp (fun k_ hk_ hs_=>(hk_.2) hs_)) (fun k_ hk_=>trivial));replace BK154:=am (blk_kept (kz BK154.out) hkp (fun hs_=>(fun e_=>(Kd.R_ne HO150.out BK154.out (by decide)) e_) hs_));replace HO150:=am (Kd.R_reok rfl hy0 (fun k_ e_=>HO150.out.1 k_ e_));replace HB:=am (hb);(try clear hb);(try clear hkp);(try clear hy0);have hz49:=zf4 BK154.out)|((with_reducible refine gy 71 rfl ?_);refine gl Try.func71 #[.slice Ao40 t145.length co40] ?_;(with_reducible refine (slices_Sort_int_int.calls (fun k_=>some k_=(.slice Ao40 t145.length co40:Value).ownBlock) (.slice Ao40 t145.length co40) t145 t155 w _ ?_ ?_ A8.out).mono ?_);exact bw HB.out;exact Kd.R_tight rfl HO147.out;rintro e w46 ⟨rfl,hy0,hb,hkp⟩;refine ⟨_,rfl,?_⟩;replace BK144:=am (blk_kept (kz BK144.out) hkp (fun hs_=>(fun e_=>(Kd.R_ne HO147.out BK144.out (by decide)) e_) hs_));replace HO150:=am (Kd.R_mono (ok':=fun k_=>NS Ao40 t145 co40 k_) (Kd.R_keptB (HO150.out) hkp (fun k_ hk_ hs_=>(hk_) hs_)) (fun k_ hk_=>hk_.1));replace HO153:=am (Kd.R_mono (ok':=fun k_=>True) (Kd.R_keptB ((Kd.R_apart' HO153.out (Kd.R_typed HO147.out) (by decide))) hkp (fun k_ hk_ hs_=>(hk_.2) hs_)) (fun k_ hk_=>trivial));replace BK154:=am (blk_kept (kz BK154.out) hkp (fun hs_=>(fun e_=>(Kd.R_ne HO147.out BK154.out (by decide)) e_) hs_));replace HO147:=am (Kd.R_reok rfl hy0 (fun k_ e_=>HO147.out.1 k_ e_));replace HB:=am (hb);(try clear hb);(try clear hkp);(try clear hy0);have hz47:=zf4 BK154.out)|((with_reducible refine gy 72 rfl ?_);refine gl Try.func72 #[.slice Ao38 t151.length co38, .func (.func 61) #[] #[]] ?_;(with_reducible refine (slices_SortFunc_Step_at_impl_stepOrder.calls (fun k_=>some k_=(.slice Ao38 t151.length co38:Value).ownBlock) (.slice Ao38 t151.length co38) t151 t157 w _ ?_ ?_ A10.out).mono ?_);exact bw HB.out;exact Kd.R_tight rfl HO153.out;rintro e w50 ⟨rfl,hy0,hb,hkp⟩;refine ⟨_,rfl,?_⟩;replace BK144:=am (blk_kept (kz BK144.out) hkp (fun hs_=>(fun e_=>(Kd.R_ne HO153.out BK144.out (by decide)) e_) hs_));replace HO147:=am (Kd.R_mono (ok':=fun k_=>NS Ao39 t148 co39 k_) (Kd.R_keptB ((Kd.R_apart' HO147.out (Kd.R_typed HO153.out) (by decide))) hkp (fun k_ hk_ hs_=>(hk_.2) hs_)) (fun k_ hk_=>hk_.1.1));replace HO150:=am (Kd.R_mono (ok':=fun k_=>NS Ao40 t145 co40 k_) (Kd.R_keptB ((Kd.R_apart' HO150.out (Kd.R_typed HO153.out) (by decide))) hkp (fun k_ hk_ hs_=>(hk_.2) hs_)) (fun k_ hk_=>hk_.1.1));replace BK154:=am (blk_kept (kz BK154.out) hkp (fun hs_=>(fun e_=>(Kd.R_ne HO153.out BK154.out (by decide)) e_) hs_));replace HO153:=am (Kd.R_reok rfl hy0 (fun k_ e_=>HO153.out.1 k_ e_));replace HB:=am (hb);(try clear hb);(try clear hkp);(try clear hy0);have hz51:=zf4 BK154.out)|((with_reducible refine gy 30 rfl ?_);refine goesL_ (some 29) rfl rfl Try.func30 (by kernel_rfl) rfl #[.agg #[.int .i64 a0, .slice Ao40 t155.length co40, .slice Ao39 t156.length co39, .slice Ao38 t157.length co38]] rfl (by (try simp only [List.map_toArray,List.map_cons,List.map_nil]);first|done|(rw [show t155.length=t145.length from (Kd.R_reads' HO147.out).1.symm,show t156.length=t148.length from (Kd.R_reads' HO150.out).1.symm,show t157.length=t151.length from (Kd.R_reads' HO153.out).1.symm]<;> rfl)|rfl|(simp only [List.length_drop,List.length_take];rfl)) ?_;(with_reducible refine (impl_AutomatonValid.calls k a0 _ _ t155 _ _ t156 _ _ t157 false _ ?_ ?_ ?_ ?_ ?_ ?_ A11.out).mono ?_);exact kC HO147;(·rw [show t155.length=t145.length from (Kd.R_reads' HO147.out).1.symm];exact kL HO147);exact kC HO150;(·rw [show t156.length=t148.length from (Kd.R_reads' HO150.out).1.symm];exact kL HO150);exact kC HO153;(·rw [show t157.length=t151.length from (Kd.R_reads' HO153.out).1.symm];exact kL HO153);rintro e w52 ⟨rfl,hb⟩;refine ⟨_,rfl,?_⟩;replace HO147:=rb HO147 hb;replace HO150:=rb HO150 hb;replace HO153:=rb HO153 hb;replace BK144:=bk BK144 hb;replace BK154:=bk BK154 hb;replace HB:=hs HB hb;(try clear hb);have hz53:=zf4 BK144.out));refine bodyPost_ret (results_ct rfl _ _ gb144 26 #[.int .i64 0, .slice none 0 0, .slice none 0 0, .slice none 0 0] (0,0) _ rfl (kp BK144.out) Try.underlying26 rfl (by kernel_rfl)) rfl ?_;exact ⟨_,_,_,by first|rfl|(simp [errW_none,errW_some]<;> rfl)|(simp [*,errW_none,errW_some]<;> rfl),by first|exact Kd.R_nil _ _ _ _ _|exact Kd.N_nil _ _ _ _ _|exact Kd.V_nil _ _ _ _ _|exact Kd.Q_nil _ _ _ _ _|exact Kd.S_nil _ _ _ _ _,by first|exact Kd.R_nil _ _ _ _ _|exact Kd.N_nil _ _ _ _ _|exact Kd.V_nil _ _ _ _ _|exact Kd.Q_nil _ _ _ _ _|exact Kd.S_nil _ _ _ _ _,by first|exact Kd.R_nil _ _ _ _ _|exact Kd.N_nil _ _ _ _ _|exact Kd.V_nil _ _ _ _ _|exact Kd.Q_nil _ _ _ _ _|exact Kd.S_nil _ _ _ _ _,by exact bw HB.out⟩

-- NOT PRINTED: function 52 (impl_stepped)

end Go.Proofs.Ytojfbgegankddaa.PGU
