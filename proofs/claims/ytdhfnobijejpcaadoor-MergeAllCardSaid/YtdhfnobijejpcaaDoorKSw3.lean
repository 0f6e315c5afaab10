/- Texts: the reference's decoding is the model's. -/
import Derived.Test.YtdhfnobijejpcaaDoorKSv2
set_option linter.all false
open Bool renaming false_eq_true→zF,and_eq_true→zG,true_eq_false→zX
namespace Go.Ev
attribute [local irreducible] P0
open Go.Lib (decodeN)
theorem c192_tab:(List.range 256).map (fun(b:Nat)=>(binV .and (.int .u8 (b:Int)) (.int .u8 192)).bind fun x=>binV .eql x (.int .u8 128))=(List.range 256).map (fun(b:Nat)=>some (V.bool (decide (b / 64=2)))):=by kernel_rfl
theorem i31_tab:(List.range 256).map (fun(b:Nat)=>binV .and (.int .i32 (b:Int)) (.int .i32 31))=(List.range 256).map (fun(b:Nat)=>some (V.int .i32 ((b % 32:Nat):Int))):=by kernel_rfl
theorem i15_tab:(List.range 256).map (fun(b:Nat)=>binV .and (.int .i32 (b:Int)) (.int .i32 15))=(List.range 256).map (fun(b:Nat)=>some (V.int .i32 ((b % 16:Nat):Int))):=by kernel_rfl
theorem i7_tab:(List.range 256).map (fun(b:Nat)=>binV .and (.int .i32 (b:Int)) (.int .i32 7))=(List.range 256).map (fun(b:Nat)=>some (V.int .i32 ((b % 8:Nat):Int))):=by kernel_rfl
def contB(s:Str)(j:Nat):Bool:=decide (j<s.length∧B s j / 64=2)
theorem cont_ok(s:Str)(j:Nat):P0 f_ref04_cont [.v (.str s),.v (.int .i64 (j:Int))] []=some (.bool (contB s j),[]):=by
 rw[eq_ref04_cont];unfold F_ref04_cont contB
 by_cases h:j<s.length
 ·have d:decide ((j:Int)<(s.length:Int))=true:=decide_eq_true (by omega)
  have ht:=tab256 c192_tab (B s j) (B_lt s j)
  obtain⟨y,hy1,hy2⟩ : ∃ y,binV .and (.int .u8 (B s j:Int)) (.int .u8 192)=some y∧binV .eql y (.int .u8 128)=some (.bool (decide (B s j / 64=2))):=by
   cases hq:binV .and (.int .u8 (B s j:Int)) (.int .u8 192)with
   | none=>simp only[hq,Option.bind_none]at ht;contradiction
   | some y=>simp only[hq,some_bind]at ht;exact⟨y,rfl,ht⟩
  have e:decide (j<s.length∧B s j / 64=2)=decide (B s j / 64=2):=by
   by_cases q:B s j / 64=2
   ·rw[decide_eq_true q,decide_eq_true ⟨h,q⟩]
   ·rw[decide_eq_false q,decide_eq_false (fun z=>q z.2)]
  simp only[tick_eq,lns_s,some_bind,lss_i,d,asBool_b,if_true,ixs_B s .i64 j h,hy1,hy2,e]
 ·have d:decide ((j:Int)<(s.length:Int))=false:=decide_eq_false (by omega)
  simp only[tick_eq,lns_s,some_bind,lss_i,d,asBool_b,zF,if_false,decide_eq_false (fun z:j<s.length∧_=>h z.1)]
/-- a code point, or none -/
def rv(s:Str)(i:Nat):Int:=if(ud s i).1=65533∧(ud s i).2=1 then -1 else((ud s i).1:Nat)
set_option maxRecDepth 100000 in
theorem rrune_all(s:Str)(i:Nat)(hi:i<s.length)(hl:s.length≤1000000000):P0 f_ref04_Rune [.v (.str s),.v (.int .i64 (i:Int))] []=some (.tup [.int .i32 (rv s i),.int .i64 ((ud s i).2:Nat)],[]):=by
 have dT : ∀ {p:Prop} [Decidable p],p→decide p=true:=fun h=>decide_eq_true h
 have dF : ∀ {p:Prop} [Decidable p],¬ p→decide p=false:=fun h=>decide_eq_false h
 have b0:decide ((i:Int)<0)=false:=dF (by omega)
 have b1:decide ((s.length:Int)≤(i:Int))=false:=dF (by omega)
 have l0:=B_lt s i
 have l1:=B_lt s (i+1)
 have l2:=B_lt s (i+2)
 have l3:=B_lt s (i+3)
 have i0:=ixs_B s .i64 i hi
 have p1:IntKind.i64.wrap ((i:Int)+1)=((i+1:Nat):Int):=w64 (a:=(i:Int)+1) (by omega)
 have p2:IntKind.i64.wrap ((i:Int)+2)=((i+2:Nat):Int):=w64 (a:=(i:Int)+2) (by omega)
 have p3:IntKind.i64.wrap ((i:Int)+3)=((i+3:Nat):Int):=w64 (a:=(i:Int)+3) (by omega)
 have w0:=w32n (B s i) (by omega)
 have hud:=ud_eq s i
 have m1:binV .and (.int .u8 (B s (i+1):Int)) (.int .u8 63)=some (.int .u8 ((B s (i+1) % 64:Nat):Int)):=tab256 and63_tab _ l1
 have m2:binV .and (.int .u8 (B s (i+2):Int)) (.int .u8 63)=some (.int .u8 ((B s (i+2) % 64:Nat):Int)):=tab256 and63_tab _ l2
 have m3:binV .and (.int .u8 (B s (i+3):Int)) (.int .u8 63)=some (.int .u8 ((B s (i+3) % 64:Nat):Int)):=tab256 and63_tab _ l3
 have k1:B s (i+1) % 64<64:=Nat.mod_lt _ (by decide)
 have k2:B s (i+2) % 64<64:=Nat.mod_lt _ (by decide)
 have k3:B s (i+3) % 64<64:=Nat.mod_lt _ (by decide)
 have c1i:contB s (i+1)=true↔(1<s.length - i∧B s (i+1) / 64=2):=by unfold contB;rw[decide_eq_true_eq];omega
 have c2i:contB s (i+2)=true↔(2<s.length - i∧B s (i+2) / 64=2):=by unfold contB;rw[decide_eq_true_eq];omega
 have c3i:contB s (i+3)=true↔(3<s.length - i∧B s (i+3) / 64=2):=by unfold contB;rw[decide_eq_true_eq];omega
 rw[eq_ref04_Rune];unfold F_ref04_Rune
 by_cases g1:B s i<128
 ·have d1:decide ((B s i:Int)<128)=true:=dT (by omega)
  have e:ud s i=(B s i,1):=by rw[hud];unfold decodeN;rw[if_pos g1]
  have er:rv s i=(B s i:Int):=by unfold rv;rw[e,if_neg (by simp only;omega)]
  simp only[tick_eq,lss_i,b0,some_bind,asBool_b,if_true,lns_s,geq_i,b1,zF,if_false,i0,cvi_i,w0,d1,er,e]
  rfl
 have d1:decide ((B s i:Int)<128)=false:=dF (by omega)
 have ifl : ∀ lo hi:Nat,(if decide ((lo:Int)≤(B s i:Int))=true then(binV .lss (.int .i32 (B s i:Int)) (.int .i32 (hi:Int))).bind fun x13=>some x13 else some (.bool false):Option V)=some (.bool (decide (lo≤B s i∧B s i<hi))):=by
  intro lo hi
  by_cases q:lo≤B s i
  ·rw[dT (show(lo:Int)≤(B s i:Int) by omega),if_pos rfl,lss_i,some_bind]
   by_cases q2:B s i<hi
   ·rw[dT (show(B s i:Int)<(hi:Int) by omega),dT (show lo≤B s i∧B s i<hi from⟨q,q2⟩)]
   ·rw[dF (show ¬ (B s i:Int)<(hi:Int) by omega),dF (fun z:lo≤B s i∧B s i<hi=>q2 z.2)]
  ·rw[dF (show ¬ (lo:Int)≤(B s i:Int) by omega),if_neg (by decide),dF (fun z:lo≤B s i∧B s i<hi=>q z.1)]
 have if1 : ∀ b:Bool,(if b=true then(binV .add (.int .i64 (i:Int)) (.int .i64 1)).bind fun x16=>(P0 f_ref04_cont [.v (.str s),.v x16] []).bind fun r17=>some r17.1 else some (.bool false):Option V)=some (.bool (b && contB s (i+1))):=by
  intro b;cases b with
  | false=>rfl
  | true=>simp only[tick_eq,if_true,add_i,some_bind,p1,cont_ok,Bool.true_and]
 have if2 : ∀ b:Bool,(if b=true then(binV .add (.int .i64 (i:Int)) (.int .i64 2)).bind fun x16=>(P0 f_ref04_cont [.v (.str s),.v x16] []).bind fun r17=>some r17.1 else some (.bool false):Option V)=some (.bool (b && contB s (i+2))):=by
  intro b;cases b with
  | false=>rfl
  | true=>simp only[tick_eq,if_true,add_i,some_bind,p2,cont_ok,Bool.true_and]
 have if3 : ∀ b:Bool,(if b=true then(binV .add (.int .i64 (i:Int)) (.int .i64 3)).bind fun x16=>(P0 f_ref04_cont [.v (.str s),.v x16] []).bind fun r17=>some r17.1 else some (.bool false):Option V)=some (.bool (b && contB s (i+3))):=by
  intro b;cases b with
  | false=>rfl
  | true=>simp only[tick_eq,if_true,add_i,some_bind,p3,cont_ok,Bool.true_and]
 have f2:(if decide ((194:Int)≤(B s i:Int))=true then(binV .lss (.int .i32 (B s i:Int)) (.int .i32 224)).bind fun x13=>some x13 else some (.bool false):Option V)=_:=ifl 194 224
 have f3:(if decide ((224:Int)≤(B s i:Int))=true then(binV .lss (.int .i32 (B s i:Int)) (.int .i32 240)).bind fun x13=>some x13 else some (.bool false):Option V)=_:=ifl 224 240
 have f4:(if decide ((240:Int)≤(B s i:Int))=true then(binV .lss (.int .i32 (B s i:Int)) (.int .i32 245)).bind fun x13=>some x13 else some (.bool false):Option V)=_:=ifl 240 245
 cases C2:(decide (194≤B s i∧B s i<224) && contB s (i+1))with
 | true=>
  simp only[zG,decide_eq_true_eq]at C2
  have q1:=c1i.1 C2.2
  have e:ud s i=(B s i % 32 * 64+B s (i+1) % 64,2):=by
   rw[hud];unfold decodeN
   rw[if_neg g1,if_pos ⟨by omega,q1⟩,if_pos (by omega)]
  have er:rv s i=((B s i % 32 * 64+B s (i+1) % 64:Nat):Int):=by unfold rv;rw[e,if_neg (by simp only;omega)]
  have i1:=ixs_B s .i64 (i+1) (by omega)
  have a0:binV .and (.int .i32 (B s i:Int)) (.int .i32 31)=some (.int .i32 ((B s i % 32:Nat):Int)):=tab256 i31_tab _ l0
  have s0:binV .shl (.int .i32 ((B s i % 32:Nat):Int)) (.int .u64 6)=some (.int .i32 ((B s i % 32 * 2 ^ 6:Nat):Int)):=shl32 _ 6 (by decide) (by omega)
  have o0:=or32 (B s i % 32) 6 (B s (i+1) % 64) (by omega) (by omega)
  have C:(decide (194≤B s i∧B s i<224) && contB s (i+1))=true:=by rw[dT C2.1,C2.2];rfl
  simp only[tick_eq,lss_i,b0,some_bind,asBool_b,if_true,lns_s,geq_i,b1,zF,if_false,i0,cvi_i,w0,d1,f2,if1,C,add_i,p1,a0,s0,i1,m1,w32n (B s (i+1) % 64) (by omega),o0,er,e]
  rfl
 | false=>
 cases C3:(decide (224≤B s i∧B s i<240) && contB s (i+1) && contB s (i+2))with
 | true=>
  have D:=C3
  simp only[zG,decide_eq_true_eq]at D
  have q1:=c1i.1 D.1.2
  have q2:=c2i.1 D.2
  have i1:=ixs_B s .i64 (i+1) (by omega)
  have i2:=ixs_B s .i64 (i+2) (by omega)
  have k0:B s i % 16<16:=Nat.mod_lt _ (by decide)
  have a0:binV .and (.int .i32 (B s i:Int)) (.int .i32 15)=some (.int .i32 ((B s i % 16:Nat):Int)):=tab256 i15_tab _ l0
  have s0:binV .shl (.int .i32 ((B s i % 16:Nat):Int)) (.int .u64 12)=some (.int .i32 ((B s i % 16 * 2 ^ 12:Nat):Int)):=shl32 _ 12 (by decide) (by omega)
  have s1:binV .shl (.int .i32 ((B s (i+1) % 64:Nat):Int)) (.int .u64 6)=some (.int .i32 ((B s (i+1) % 64 * 2 ^ 6:Nat):Int)):=shl32 _ 6 (by decide) (by omega)
  have o0:=or32 (B s i % 16) 12 (B s (i+1) % 64 * 2 ^ 6) (by omega) (by omega)
  have o1:=or32 (B s i % 16 * 64+B s (i+1) % 64) 6 (B s (i+2) % 64) (by omega) (by omega)
  rw[show(B s i % 16 * 64+B s (i+1) % 64) * 2 ^ 6=B s i % 16 * 2 ^ 12+B s (i+1) % 64 * 2 ^ 6 by omega]at o1
  have hc:B s i % 16 * 2 ^ 12+B s (i+1) % 64 * 2 ^ 6+B s (i+2) % 64=B s i % 16 * 4096+B s (i+1) % 64 * 64+B s (i+2) % 64:=by omega
  rw[hc]at o1
  have hud2:ud s i=if B s i % 16 * 4096+B s (i+1) % 64 * 64+B s (i+2) % 64 ≥ 2048∧(B s i % 16 * 4096+B s (i+1) % 64 * 64+B s (i+2) % 64<55296∨(57344≤B s i % 16 * 4096+B s (i+1) % 64 * 64+B s (i+2) % 64∧B s i % 16 * 4096+B s (i+1) % 64 * 64+B s (i+2) % 64≤1114111))then(B s i % 16 * 4096+B s (i+1) % 64 * 64+B s (i+2) % 64,3)else(65533,1):=by
   rw[hud];unfold decodeN
   rw[if_neg g1,if_neg (by omega),if_pos ⟨by omega,q1,q2⟩]
  have hlim:B s i % 16 * 4096+B s (i+1) % 64 * 64+B s (i+2) % 64≤65535:=by omega
  obtain⟨c,hcc⟩ : ∃ c,c=B s i % 16 * 4096+B s (i+1) % 64 * 64+B s (i+2) % 64:=⟨_,rfl⟩
  rw[← hcc]at o1 hud2 hlim
  clear hcc hc
  have good:(if decide ((2048:Int)≤(c:Int))=true then(binV .lss (.int .i32 (c:Int)) (.int .i32 55296)).bind fun x55=>(asBool x55).bind fun b56=>((if b56=false then(binV .gtr (.int .i32 (c:Int)) (.int .i32 57343)).bind fun x57=>some x57 else some (.bool true):Option V)).bind fun x58=>some x58 else some (.bool false):Option V)=some (.bool (decide (c ≥ 2048∧(c<55296∨(57344≤c∧c≤1114111))))):=by
   by_cases h1:2048≤c
   ·rw[dT (show(2048:Int)≤(c:Int) by omega),if_pos rfl]
    by_cases h2:c<55296
    ·rw[dT (show c ≥ 2048∧(c<55296∨(57344≤c∧c≤1114111))from⟨h1,.inl h2⟩)]
     simp only[tick_eq,lss_i,dT (show(c:Int)<55296 by omega),some_bind,asBool_b,zX,if_false]
    ·by_cases h3:57343<c
     ·rw[dT (show c ≥ 2048∧(c<55296∨(57344≤c∧c≤1114111))from⟨h1,.inr ⟨by omega,by omega⟩⟩)]
      simp only[tick_eq,lss_i,dF (show ¬ (c:Int)<55296 by omega),some_bind,asBool_b,if_true,gtr_i,dT (show(57343:Int)<(c:Int) by omega)]
     ·rw[dF (show ¬ (c ≥ 2048∧(c<55296∨(57344≤c∧c≤1114111))) by omega)]
      simp only[tick_eq,lss_i,dF (show ¬ (c:Int)<55296 by omega),some_bind,asBool_b,if_true,gtr_i,dF (show ¬ (57343:Int)<(c:Int) by omega)]
   ·rw[dF (show ¬ (2048:Int)≤(c:Int) by omega),if_neg (by decide),dF (show ¬ (c ≥ 2048∧(c<55296∨(57344≤c∧c≤1114111))) by omega)]
  by_cases hg:c ≥ 2048∧(c<55296∨(57344≤c∧c≤1114111))
  ·rw[if_pos hg]at hud2
   rw[dT hg]at good
   have er:rv s i=(c:Int):=by unfold rv;rw[hud2,if_neg (by simp)]
   simp only[tick_eq,lss_i,b0,some_bind,asBool_b,if_true,lns_s,geq_i,b1,zF,if_false,i0,cvi_i,w0,d1,f2,if1,C2,f3,if2,C3,add_i,p1,p2,a0,s0,i1,m1,w32n (B s (i+1) % 64) (by omega),s1,o0,i2,m2,w32n (B s (i+2) % 64) (by omega),o1,good,er,hud2]
   rfl
  ·rw[if_neg hg]at hud2
   rw[dF hg]at good
   have er:rv s i = -1:=by unfold rv;rw[hud2,if_pos ⟨rfl,rfl⟩]
   simp only[tick_eq,lss_i,b0,some_bind,asBool_b,if_true,lns_s,geq_i,b1,zF,if_false,i0,cvi_i,w0,d1,f2,if1,C2,f3,if2,C3,add_i,p1,p2,a0,s0,i1,m1,w32n (B s (i+1) % 64) (by omega),s1,o0,i2,m2,w32n (B s (i+2) % 64) (by omega),o1,good,er,hud2]
   rfl
 | false=>
 cases C4:(decide (240≤B s i∧B s i<245) && contB s (i+1) && contB s (i+2) && contB s (i+3))with
 | true=>
  have D:=C4
  simp only[zG,decide_eq_true_eq]at D
  have q1:=c1i.1 D.1.1.2
  have q2:=c2i.1 D.1.2
  have q3:=c3i.1 D.2
  have i1:=ixs_B s .i64 (i+1) (by omega)
  have i2:=ixs_B s .i64 (i+2) (by omega)
  have i3:=ixs_B s .i64 (i+3) (by omega)
  have k0:B s i % 8<8:=Nat.mod_lt _ (by decide)
  have a0:binV .and (.int .i32 (B s i:Int)) (.int .i32 7)=some (.int .i32 ((B s i % 8:Nat):Int)):=tab256 i7_tab _ l0
  have s0:binV .shl (.int .i32 ((B s i % 8:Nat):Int)) (.int .u64 18)=some (.int .i32 ((B s i % 8 * 2 ^ 18:Nat):Int)):=shl32 _ 18 (by decide) (by omega)
  have s1:binV .shl (.int .i32 ((B s (i+1) % 64:Nat):Int)) (.int .u64 12)=some (.int .i32 ((B s (i+1) % 64 * 2 ^ 12:Nat):Int)):=shl32 _ 12 (by decide) (by omega)
  have s2:binV .shl (.int .i32 ((B s (i+2) % 64:Nat):Int)) (.int .u64 6)=some (.int .i32 ((B s (i+2) % 64 * 2 ^ 6:Nat):Int)):=shl32 _ 6 (by decide) (by omega)
  have o0:=or32 (B s i % 8) 18 (B s (i+1) % 64 * 2 ^ 12) (by omega) (by omega)
  have o1:=or32 (B s i % 8 * 64+B s (i+1) % 64) 12 (B s (i+2) % 64 * 2 ^ 6) (by omega) (by omega)
  have o2:=or32 (B s i % 8 * 4096+B s (i+1) % 64 * 64+B s (i+2) % 64) 6 (B s (i+3) % 64) (by omega) (by omega)
  rw[show(B s i % 8 * 64+B s (i+1) % 64) * 2 ^ 12=B s i % 8 * 2 ^ 18+B s (i+1) % 64 * 2 ^ 12 by omega]at o1
  rw[show(B s i % 8 * 4096+B s (i+1) % 64 * 64+B s (i+2) % 64) * 2 ^ 6=B s i % 8 * 2 ^ 18+B s (i+1) % 64 * 2 ^ 12+B s (i+2) % 64 * 2 ^ 6 by omega]at o2
  have hc:B s i % 8 * 2 ^ 18+B s (i+1) % 64 * 2 ^ 12+B s (i+2) % 64 * 2 ^ 6+B s (i+3) % 64=B s i % 8 * 262144+B s (i+1) % 64 * 4096+B s (i+2) % 64 * 64+B s (i+3) % 64:=by omega
  rw[hc]at o2
  have hud2:ud s i=if B s i % 8 * 262144+B s (i+1) % 64 * 4096+B s (i+2) % 64 * 64+B s (i+3) % 64 ≥ 65536∧(B s i % 8 * 262144+B s (i+1) % 64 * 4096+B s (i+2) % 64 * 64+B s (i+3) % 64<55296∨(57344≤B s i % 8 * 262144+B s (i+1) % 64 * 4096+B s (i+2) % 64 * 64+B s (i+3) % 64∧B s i % 8 * 262144+B s (i+1) % 64 * 4096+B s (i+2) % 64 * 64+B s (i+3) % 64≤1114111))then(B s i % 8 * 262144+B s (i+1) % 64 * 4096+B s (i+2) % 64 * 64+B s (i+3) % 64,4)else(65533,1):=by
   rw[hud];unfold decodeN
   rw[if_neg g1,if_neg (by omega),if_neg (by omega),if_pos ⟨by omega,q1,q2,q3⟩]
  obtain⟨c,hcc⟩ : ∃ c,c=B s i % 8 * 262144+B s (i+1) % 64 * 4096+B s (i+2) % 64 * 64+B s (i+3) % 64:=⟨_,rfl⟩
  rw[← hcc]at o2 hud2
  clear hcc hc
  have good:(if decide ((65536:Int)≤(c:Int))=true then(binV .leq (.int .i32 (c:Int)) (.int .i32 1114111)).bind fun x99=>some x99 else some (.bool false):Option V)=some (.bool (decide (c ≥ 65536∧(c<55296∨(57344≤c∧c≤1114111))))):=by
   by_cases h1:65536≤c
   ·rw[dT (show(65536:Int)≤(c:Int) by omega),if_pos rfl]
    by_cases h2:c≤1114111
    ·rw[dT (show c ≥ 65536∧(c<55296∨(57344≤c∧c≤1114111))from⟨h1,.inr ⟨by omega,h2⟩⟩),leq_i,dT (show(c:Int)≤1114111 by omega)];rfl
    ·rw[dF (show ¬ (c ≥ 65536∧(c<55296∨(57344≤c∧c≤1114111))) by omega),leq_i,dF (show ¬ (c:Int)≤1114111 by omega)];rfl
   ·rw[dF (show ¬ (65536:Int)≤(c:Int) by omega),if_neg (by decide),dF (show ¬ (c ≥ 65536∧(c<55296∨(57344≤c∧c≤1114111))) by omega)]
  by_cases hg:c ≥ 65536∧(c<55296∨(57344≤c∧c≤1114111))
  ·rw[if_pos hg]at hud2
   rw[dT hg]at good
   have er:rv s i=(c:Int):=by unfold rv;rw[hud2,if_neg (by simp)]
   simp only[tick_eq,lss_i,b0,some_bind,asBool_b,if_true,lns_s,geq_i,b1,zF,if_false,i0,cvi_i,w0,d1,f2,if1,C2,f3,if2,C3,f4,if3,C4,add_i,p1,p2,p3,a0,s0,i1,m1,w32n (B s (i+1) % 64) (by omega),s1,o0,i2,m2,w32n (B s (i+2) % 64) (by omega),s2,o1,i3,m3,w32n (B s (i+3) % 64) (by omega),o2,good,er,hud2]
   rfl
  ·rw[if_neg hg]at hud2
   rw[dF hg]at good
   have er:rv s i = -1:=by unfold rv;rw[hud2,if_pos ⟨rfl,rfl⟩]
   simp only[tick_eq,lss_i,b0,some_bind,asBool_b,if_true,lns_s,geq_i,b1,zF,if_false,i0,cvi_i,w0,d1,f2,if1,C2,f3,if2,C3,f4,if3,C4,add_i,p1,p2,p3,a0,s0,i1,m1,w32n (B s (i+1) % 64) (by omega),s1,o0,i2,m2,w32n (B s (i+2) % 64) (by omega),s2,o1,i3,m3,w32n (B s (i+3) % 64) (by omega),o2,good,er,hud2]
   rfl
 | false=>
  have n2 : ¬ ((194≤B s i∧B s i<224)∧(1<s.length - i∧B s (i+1) / 64=2)):=fun z=>by
   rw[dT z.1,c1i.2 z.2]at C2;contradiction
  have n3 : ¬ ((224≤B s i∧B s i<240)∧(1<s.length - i∧B s (i+1) / 64=2)∧(2<s.length - i∧B s (i+2) / 64=2)):=fun z=>by
   rw[dT z.1,c1i.2 z.2.1,c2i.2 z.2.2]at C3;contradiction
  have n4 : ¬ ((240≤B s i∧B s i<245)∧(1<s.length - i∧B s (i+1) / 64=2)∧(2<s.length - i∧B s (i+2) / 64=2)∧(3<s.length - i∧B s (i+3) / 64=2)):=fun z=>by
   rw[dT z.1,c1i.2 z.2.1,c2i.2 z.2.2.1,c3i.2 z.2.2.2]at C4;contradiction
  have e:ud s i=(65533,1):=by
   rw[hud];unfold decodeN
   rw[if_neg g1]
   by_cases h2:B s i / 32=6∧(1<s.length - i∧B s (i+1) / 64=2)
   ·rw[if_pos h2,if_neg (fun z=>n2 ⟨⟨by omega,by omega⟩,h2.2⟩)]
   ·rw[if_neg h2,if_neg (fun z=>n3 ⟨⟨by omega,by omega⟩,z.2.1,z.2.2⟩)]
    by_cases h4:B s i / 8=30∧(1<s.length - i∧B s (i+1) / 64=2)∧(2<s.length - i∧B s (i+2) / 64=2)∧(3<s.length - i∧B s (i+3) / 64=2)
    ·rw[if_pos h4,if_neg (fun z=>n4 ⟨⟨by omega,by omega⟩,h4.2.1,h4.2.2.1,h4.2.2.2⟩)]
    ·rw[if_neg h4]
  have er:rv s i = -1:=by unfold rv;rw[e,if_pos ⟨rfl,rfl⟩]
  simp only[tick_eq,lss_i,b0,some_bind,asBool_b,if_true,lns_s,geq_i,b1,zF,if_false,i0,cvi_i,w0,d1,f2,if1,C2,f3,if2,C3,f4,if3,C4,er,e]
  rfl
end Go.Ev
