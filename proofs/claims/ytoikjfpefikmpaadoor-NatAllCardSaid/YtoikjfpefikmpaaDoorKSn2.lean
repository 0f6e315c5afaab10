/- Naturals: digits. -/
import Derived.Test.YtoikjfpefikmpaaDoorKSn1
set_option linter.all false
open Option renaming map_some→zC
open Bool renaming false_eq_true→zF,not_true→zH,not_false→zI,true_eq_false→zX
open Nat renaming lt_of_lt_of_le→zK,le_refl→zR
open List renaming getElem?_eq_getElem→zL,getElem?_cons_zero→zM,getElem?_cons_succ→zN,drop_eq_getElem_cons→zO,drop_eq_nil_of_le→zQ,drop_zero→zU,take_of_length_le→zV
namespace Go.Ev
attribute [local irreducible] P0
def dig(n:Nat):UInt8:=UInt8.ofNat (48+n % 10)
/-- so many digits, the lowest ones -/
def pad:Nat→Nat→Str
 | 0,_=>[]
 | k+1,v=>dig (v / 10 ^ k)::pad k v
theorem pad_len(k v:Nat):(pad k v).length=k:=by induction k<;>simp_all [pad]
def u8s(s:Str):List V:=s.map fun b => .int .u8 (b.toNat:Nat)
theorem u8s_len(s:Str):(u8s s).length=s.length:=by simp[u8s]
theorem asBytes_u8s(s:Str):asBytesV (u8s s)=some s:=by
 induction s with
 | nil=>rfl
 | cons b r ih=>
  show(asBytesV (u8s r)).bind (fun l=>some (UInt8.ofNat ((b.toNat:Int)).toNat::l))=_
  rw[ih]
  simp
theorem dig_nat(n:Nat):(dig n).toNat=48+n % 10:=by
 unfold dig
 rw[UInt8.toNat_ofNat']
 omega
theorem dig_facts(q:Nat)(h:q<1000000000):binV .rem (.int .u32 (q:Int)) (.int .u32 10)=some (.int .u32 ((q % 10:Nat):Int))∧binV .quo (.int .u32 (q:Int)) (.int .u32 10)=some (.int .u32 ((q / 10:Nat):Int)) ∧
  IntKind.u32.wrap (48+((q % 10:Nat):Int))=((48+q % 10:Nat):Int)∧IntKind.u8.wrap ((48+q % 10:Nat):Int)=((dig q).toNat:Int):=by
 refine⟨?_,?_,?_,?_⟩
 ·rw[rem_i _ _ _ (by decide)];rfl
 ·rw[quo_i _ _ _ (by decide),show(q:Int).tdiv 10=((q / 10:Nat):Int)from rfl,wu32 (by omega)]
 ·rw[wu32 (by omega)];omega
 ·rw[dig_nat,IntKind.wrap_u8];omega
theorem set_mid{α:Type}(z:α)(n:Nat)(y:α)(r:List α):(List.replicate (n+1) z++r).set n y=List.replicate n z++y::r:=by
 induction n with
 | zero=>rfl
 | succ n ih=>rw[List.replicate_succ,List.cons_append,List.set_cons_succ,ih];rfl
theorem dig_loop(ps:List V)(v0:Nat)(hv:v0<1000000000)(k:Nat) : ∀ i,i+k=9 →
  loopL L_nat_Digits_1 (vec [.sl ps,.int .u32 ((v0 / 10 ^ i:Nat):Int),.int .i64 (i:Int),.sl (List.replicate (9 - i) (.int .u8 0)++u8s (pad i v0))])=some (0,vec [.sl ps,.sl (u8s (pad 9 v0))]):=by
 induction k with
 | zero=>
  intro i hi
  have e:i=9:=by omega
  subst e
  apply loopL_inr
  unfold L_nat_Digits_1
  have c1 : ¬ ((9:Nat):Int)<9:=by omega
  simp only[tick_eq,vec_0,vec_s,lss_i,c1,decide_false,some_bind,asBool_b,zF,if_false,elems_sl]
  rfl
 | succ k ih=>
  intro i hi
  have hi9:i<9:=by omega
  have c1:(i:Int)<9:=by omega
  have hd:v0 / 10 ^ i<1000000000:=Nat.lt_of_le_of_lt (Nat.div_le_self _ _) hv
  have e1:v0 / 10 ^ (i+1)=v0 / 10 ^ i / 10:=by rw[Nat.pow_succ,Nat.div_div_eq_div_mul]
  have hb:((8:Int) - (i:Int))=((8 - i:Nat):Int):=by omega
  have w1:IntKind.i64.wrap ((8 - i:Nat):Int)=((8 - i:Nat):Int):=w64 (by omega)
  obtain⟨hr,hq,ha,hc⟩:=dig_facts (v0 / 10 ^ i) hd
  have hlen:(List.replicate (9 - i) (V.int .u8 0)++u8s (pad i v0)).length=9:=by simp[u8s_len,pad_len];omega
  have hblt:Nat.blt (8 - i) 9=true:=by rw[Nat.blt_eq];omega
  have hset:(List.replicate (9 - i) (V.int .u8 0)++u8s (pad i v0)).set (8 - i) (.int .u8 ((dig (v0 / 10 ^ i)).toNat:Int))=List.replicate (9 - (i+1)) (.int .u8 0)++u8s (pad (i+1) v0):=by
   have:9 - i=(8 - i)+1:=by omega
   rw[this,set_mid,show 9 - (i+1)=8 - i by omega]
   rfl
  have w2:=w64 (a:=(i:Int)+1) (by omega)
  have e2:((i+1:Nat):Int)=(i:Int)+1:=by omega
  have hih:=ih (i+1) (by omega)
  rw[e1,e2]at hih
  rw[← hih,← hset]
  apply loopL_inl
  unfold L_nat_Digits_1
  simp only[tick_eq,vec_0,vec_s,lss_i,c1,decide_true,some_bind,asBool_b,if_true,sub_i,hb,w1,hr,hq,add_i,ha,cvi_i,hc,idx_nat _ (8 - i) 9 (by omega),elems_sl,hlen,hblt,okN_int,tst_t,fld_int,w2]
/-- pieces of nine digits, the lowest first -/
def pcs:Nat→Nat→List Str
 | 0,_=>[]
 | f+1,n=>if n=0 then[]else pad 9 (n % 1000000000)::pcs f (n / 1000000000)
theorem pcs_len(f n:Nat):(pcs f n).length≤f:=by
 induction f generalizing n with
 | zero=>simp[pcs]
 | succ f ih=>unfold pcs;split;simp;simp;exact ih _
theorem dig_pieces(f:Nat) : ∀ (n:Nat) (ps:List Str),n<1000000000 ^ f→(toL n).length≤100000→ps.length+f≤1000000 →
  loopL L_nat_Digits_2 (vec [.sl (limbs (toL n)),.sl (strs ps)])=some (0,vec [.sl (strs (ps++pcs f n))]):=by
 induction f with
 | zero=>
  intro n ps hn hl hp
  have:n=0:=by simpa using hn
  subst this
  apply loopL_inr
  unfold L_nat_Digits_2
  rw[toL_zero,pcs,List.append_nil]
  simp only[tick_eq,vec_0,vec_s,lenV_sl,limbs_len,List.length_nil,some_bind,elems_sl]
  rfl
 | succ f ih=>
  intro n ps hn hl hp
  unfold pcs
  by_cases h0:n=0
  ·subst h0
   rw[if_pos rfl,List.append_nil]
   apply loopL_inr
   unfold L_nat_Digits_2
   rw[toL_zero]
   simp only[tick_eq,vec_0,vec_s,lenV_sl,limbs_len,List.length_nil,some_bind,elems_sl]
   rfl
  ·rw[if_neg h0]
   have hne:0<(toL n).length:=List.length_pos_iff.2 (fun h=>h0 (toL_nil.1 h))
   have c1:((((toL n).length:Nat):Int) > 0):=by omega
   have hs:=nsmall_ok (toL n) 1000000000 (by omega) (by unfold B32;omega) (by omega) (toL_u32 n)
   rw[nval_toL,show((1000000000:Nat):Int)=1000000000 from rfl]at hs
   have hdl:=dig_loop (strs ps) (n % 1000000000) (Nat.mod_lt _ (by omega)) 9 0 (by omega)
   rw[Nat.pow_zero,Nat.div_one,show((0:Nat):Int)=0 from rfl]at hdl
   have hdl:loopL L_nat_Digits_1 (vec [.sl (strs ps),.int .u32 ((n % 1000000000:Nat):Int),.int .i64 0,.sl (List.replicate 9 (.int .u8 0))])=some (0,vec [.sl (strs ps),.sl (u8s (pad 9 (n % 1000000000)))]):=by
    rw[← hdl,show u8s (pad 0 (n % 1000000000))=[]from rfl,List.append_nil]
   have hbr:bndR none none none 9 9=some (0,9,9):=rfl
   have hble:Nat.ble 9 (u8s (pad 9 (n % 1000000000))).length=true:=by rw[u8s_len,pad_len];rfl
   have htk:((u8s (pad 9 (n % 1000000000))).drop 0).take (9 - 0)=u8s (pad 9 (n % 1000000000)):=by
    rw[zU,zV (by rw[u8s_len,pad_len];exact zR _)]
   have hlt2:n / 1000000000<1000000000 ^ f:=by
    rw[Nat.pow_succ]at hn
    exact Nat.div_lt_of_lt_mul (by rw[Nat.mul_comm];exact hn)
   have hl2:(toL (n / 1000000000)).length≤100000:=by
    refine Nat.le_trans (toL_len (Nat.lt_of_le_of_lt (Nat.div_le_self _ _) ?_)) hl
    have:=nval_lt' (toL n) (toL_u32 n)
    rwa [nval_toL]at this
   have hih:=ih (n / 1000000000) (ps++[pad 9 (n % 1000000000)]) hlt2 hl2 (by simp;omega)
   rw[List.append_assoc,List.singleton_append]at hih
   rw[← hih]
   apply loopL_inl
   unfold L_nat_Digits_2
   have hap:strs ps++[V.str (pad 9 (n % 1000000000))]=strs (ps++[pad 9 (n % 1000000000)]):=by simp[strs]
   have hsz:szOk 1 [V.str (pad 9 (n % 1000000000))]=true:=rfl
   simp only[tick_eq,vec_0,vec_s,lenV_sl,limbs_len,some_bind,c1,decide_true,if_true,hs,ext_tup,zM,zN,elems_sl,hdl,hble,tst_t,hbr,htk,asBytes_u8s,hsz,strs_len,List.length_cons,List.length_nil,Nat.zero_add,app_ok 16 ps.length 1 (by omega) (by omega),hap]
theorem dig_join(ps:List Str)(hl:ps.length≤1000000)(hs : ∀ x,x∈ps→x.length≤100)(o:Nat×(Nat→V))(ho:o.2 0 = .sl (strs ps))(k:Nat) : ∀ i (acc:Str),i+k=ps.length→acc.length≤100 * i →
  loopL (L_nat_Digits_3 o) (vec [.sl (strs ps),.int .i64 (i:Int),.str acc])=some (0,vec [.str (acc++(ps.reverse.drop i).flatten)]):=by
 induction k with
 | zero=>
  intro i acc hi ha
  have e:i=ps.length:=by omega
  subst e
  rw[zQ (by simp)]
  apply loopL_inr
  unfold L_nat_Digits_3
  have c1 : ¬ ((ps.length:Nat):Int)<(ps.length:Int):=by omega
  simp only[tick_eq,vec_0,vec_s,ho,elems_sl,strs_len,lss_i,c1,decide_false,some_bind,asBool_b,zF,if_false,List.flatten_nil,List.append_nil]
  rfl
 | succ k ih=>
  intro i acc hi ha
  have hi2:i<ps.reverse.length:=by simp;omega
  have hj:ps.length - 1 - i<ps.length:=by omega
  have hx:ps[ps.length - 1 - i]?=some ps.reverse[i]:=by
   rw[← List.getElem?_reverse (by omega),zL hi2]
  have hxl:(ps.reverse[i]).length≤100:=hs _ (by have:=List.getElem_mem hi2;simpa using this)
  rw[zO hi2,List.flatten_cons,← List.append_assoc]
  generalize ps.reverse[i]=x at *
  rw[← ih (i+1) (acc++x) (by omega) (by simp;omega)]
  apply loopL_inl
  unfold L_nat_Digits_3
  have c1:(i:Int)<(ps.length:Int):=by omega
  have w1:IntKind.i64.wrap ((ps.length:Int) - 1)=((ps.length - 1:Nat):Int):=by rw[w64 (by omega)];omega
  have e1:(((ps.length - 1:Nat):Int) - (i:Int))=((ps.length - 1 - i:Nat):Int):=by omega
  have w2:IntKind.i64.wrap ((ps.length - 1 - i:Nat):Int)=((ps.length - 1 - i:Nat):Int):=w64 (by omega)
  have w3:=w64 (a:=(i:Int)+1) (by omega)
  have e3:((i+1:Nat):Int)=(i:Int)+1:=by omega
  have hd:decide (List.length (α:=UInt8) acc+List.length (α:=UInt8) x≤140737488355328)=true:=decide_eq_true (by omega)
  have htx:txtV (.str acc)=acc:=rfl
  simp only[tick_eq,vec_0,vec_s,ho,elems_sl,strs_len,lss_i,c1,decide_true,some_bind,asBool_b,if_true,w1,sub_i,e1,w2,szOk_strs,tst_t,idx_nat _ (ps.length - 1 - i) ps.length hj,strs_get,hx,zC,fld_str,asStr,htx,hd,add_i,w3,e3]
theorem trimByte(c:UInt8)(s:Str):loopL (L_strings_trimLeftByte_1 (.int .u8 (c.toNat:Nat))) (vec [.str s])=some (0,vec [.str (s.dropWhile (· == c))]):=by
 induction s with
 | nil=>
  apply loopL_inr
  unfold L_strings_trimLeftByte_1
  simp only[tick_eq,vec_0,lns_s,some_bind,List.length_nil]
  rfl
 | cons b r ih=>
  have c1:((((b::r).length:Nat):Int) > 0):=by simp
  have hi:ixsV (.str (b::r)) (.int .i64 0)=some (.int .u8 (b.toNat:Nat)):=by
   simp only[ixsV]
   rw[show(0:Int)=((0:Nat):Int)from rfl,idx_nat _ 0 _ (by simp)]
   rfl
  have hbc:(((b.toNat:Nat):Int)=((c.toNat:Nat):Int))↔b=c:=by
   constructor
   ·intro h;exact UInt8.toNat.inj (by omega)
   ·rintro rfl;rfl
  by_cases hb:b=c
  ·subst hb
   rw[List.dropWhile_cons,if_pos (by simp),← ih]
   apply loopL_inl
   unfold L_strings_trimLeftByte_1
   have hsl:slsV (.str (b::r)) (some (.int .i64 1)) none=some (.str r):=by
    simp only[slsV,bnd2,bndV]
    simp
   simp only[tick_eq,vec_0,lns_s,some_bind,c1,decide_true,if_true,hi,eql_i,asBool_b,hsl]
  ·rw[List.dropWhile_cons,if_neg (by simp[hb])]
   apply loopL_inr
   unfold L_strings_trimLeftByte_1
   simp only[tick_eq,vec_0,lns_s,some_bind,c1,decide_true,if_true,hi,eql_i,hbc,hb,decide_false,asBool_b,zF,if_false]
theorem trimLeft0(s:Str):P0 f_strings_TrimLeft [.v (.str s),.v (.str [48])] []=some (.str (s.dropWhile (· == 48)),[]):=by
 rw[eq_strings_TrimLeft];unfold F_strings_TrimLeft
 cases s with
 | nil=>simp only[tick_eq,eql_s,beq_self_eq_true,some_bind,asBool_b,zX,if_false,if_true,List.dropWhile_nil]
 | cons b r=>
  have h1:((b::r) == ([]:Str))=false:=rfl
  have h2:(([48]:Str) == ([]:Str))=false:=rfl
  have h3:((((([48]:Str).length:Nat):Int)) == 1)=true:=rfl
  have h4:ixsV (.str [48]) (.int .i64 0)=some (.int .u8 48):=rfl
  have h5:P0 f_strings_trimLeftByte [.v (.str (b::r)),.v (.int .u8 48)] []=some (.str ((b::r).dropWhile (· == 48)),[]):=by
   rw[eq_strings_trimLeftByte];unfold F_strings_trimLeftByte
   have:=trimByte 48 (b::r)
   rw[show(((48:UInt8).toNat:Nat):Int)=48 from rfl]at this
   simp only[tick_eq,this,some_bind,vec_0]
  have c1:(48:Int)<128:=by decide
  simp only[tick_eq,eql_s,h1,h2,some_bind,asBool_b,if_true,zF,if_false,lns_s,h3,h4,lss_i,c1,decide_true,h5]
/-- a natural's digits -/
def digitsF(f n:Nat):Str:=let r:=(((pcs f n).reverse).flatten).dropWhile (· == 48);if r=[]then[48]else r
theorem pcs_in(f n:Nat) : ∀ x,x∈pcs f n→x.length=9:=by
 induction f generalizing n with
 | zero=>simp[pcs]
 | succ f ih=>
  unfold pcs
  split
  ·simp
  ·intro x hx
   rcases List.mem_cons.1 hx with rfl | hx
   ·exact pad_len _ _
   ·exact ih _ x hx
theorem ndigits_ok(l:List Nat)(hu:U32 l)(hl:l.length≤50000):P0 f_nat_Digits [.v (.sl (limbs l))] []=some (.str (digitsF (2 * l.length) (nval l)),[]):=by
 rw[eq_nat_Digits];unfold F_nat_Digits
 have hlt:nval l<1000000000 ^ (2 * l.length):=by
  refine zK (nval_lt' l hu) ?_
  rw[Nat.pow_mul]
  exact Nat.pow_le_pow_left (by unfold B32;omega) _
 have h2:=dig_pieces (2 * l.length) (nval l) [] hlt (Nat.le_trans (toL_len (nval_lt' l hu)) (by omega)) (by simp;omega)
 rw[List.nil_append,show strs []=[]from rfl]at h2
 have h3:=dig_join (pcs (2 * l.length) (nval l)) (Nat.le_trans (pcs_len _ _) (by omega)) (fun x hx=>by rw[pcs_in _ _ x hx];omega) (0,vec [.sl (strs (pcs (2 * l.length) (nval l)))]) rfl (pcs (2 * l.length) (nval l)).length 0 [] (by omega) (by simp)
 rw[zU,List.nil_append,show((0:Nat):Int)=0 from rfl]at h3
 have htx : ∀ s,txtV (.str s)=s:=fun s=>rfl
 simp only[tick_eq,nnorm_ok l (by omega) hu,some_bind,h2,vec_0,elems_sl,h3,htx,trimLeft0,neq_s]
 unfold digitsF
 cases hr:(((pcs (2 * l.length) (nval l)).reverse).flatten).dropWhile (· == 48)with
 | nil=>simp only[tick_eq,beq_self_eq_true,zH,asBool_b,some_bind,zF,if_false,if_true]
 | cons b r=>
  have h1:((b::r) == ([]:Str))=false:=rfl
  simp only[tick_eq,h1,zI,asBool_b,some_bind,if_true,reduceCtorEq,if_false]
  exact congrArg (fun s=>some (V.str s,([]:List V))) hr
end Go.Ev
