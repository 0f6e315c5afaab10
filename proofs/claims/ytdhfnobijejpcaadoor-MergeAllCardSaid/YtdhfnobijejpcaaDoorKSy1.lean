/- Merging of what is in order: by the code, by the reference. -/
import Derived.Test.YtdhfnobijejpcaaDoorKSw9
set_option linter.all false
open Option renaming map_some→zC
open Bool renaming false_eq_true→zF,not_true→zH,not_false→zI
open List renaming getElem?_eq_getElem→zL,getElem?_cons_zero→zM,getElem?_cons_succ→zN,drop_eq_getElem_cons→zO,drop_eq_nil_of_le→zQ,mem_cons→zS,drop_zero→zU,take_of_length_le→zV
open Int renaming natCast_nonneg→zY
namespace Go.Ev
attribute [local irreducible] P0
theorem rmember_obj(u:AL)(n:Str)(hl:u.length≤1000000):P0 f_ref05_Member [.v (obj u).val,.v (.str n)] []=some (memV n u,[]):=by
 have h:=rmember_ok (obj u) n (by show(names u).length≤_;rw[names_len];exact hl) (by rw[al_obj];exact hl)
 rw[al_obj]at h
 exact h
theorem rset_obj(u:AL)(n:Str)(v:Tree)(hs:SrtA u)(hl:u.length≤1000000):P0 f_ref05_Set [.v (obj u).val,.v (.str n),.v v.val] []=some ((obj (setA n v u)).val,[]):=by
 have h:=rset_ok (obj u) n v (by rw[al_obj];exact hs) (by show(names u).length≤_;rw[names_len];exact hl) (by rw[al_obj];exact hl)
 rw[al_obj]at h
 exact h
theorem merge_ord{p:Tree}(hp:OrdT p) : ∀ t,OrdT t→weight t≤400000→weight p≤400000→P0 f_merge_Merge [.v t.val,.v p.val] []=some ((mrg t p).val,[]):=by
 induction hp with
 | mk p hpo hs hp1 hp2 hp3 hv ih=>
  intro t hot hwt hwp
  by_cases hk:p.kind=7
  ·have hpe:=hpo hk
   have hpv:p.v=valsL (al p):=congrArg Tree.v hpe
   have ihq : ∀ q,q∈al p → ∀ t,OrdT t→weight t≤400000→weight q.2≤400000→P0 f_merge_Merge [.v t.val,.v q.2.val] []=some ((mrg t q.2).val,[]):=fun q hq=>ih q.2 (by rw[hpv];exact List.mem_map.2 ⟨q,hq,rfl⟩)
   generalize al p=l at *
   subst hpe
   have hsz:=weight_obj l
   have hl0:=len_wA l
   have hlen:(names l).length=l.length:=names_len l
   have hlen2:(valsL l).length=l.length:=valsL_len l
   have hu0:(al t).length≤400000:=by have:=al_weight hot;have:=len_wA (al t);omega
   have ps:=hot.al_srt
   -- the loop
   have loop : ∀ k i u,i+k=l.length→SrtA u→u.length≤400000+i→(∀ n,n∈names (l.drop i)→lk n u=lk n (al t)) →
     loopL (L_merge_Merge_1 (strs (names l)) (0,l.length) (obj l).val) (vec [.int .i64 (i:Int),(obj u).val])=some (0,vec [(obj (mrgA u (names (l.drop i)) (valsL (l.drop i)))).val]):=by
    intro k
    induction k with
    | zero=>
     intro i u hi hsu hul hlk
     rw[zQ (by omega)]
     have hr:mrgA u (names []) (valsL [])=u:=by simp[names,valsL,mrgA]
     rw[hr]
     apply loopL_inr
     unfold L_merge_Merge_1
     have e:(((strs (names l)).drop (0,l.length).1).take ((0,l.length).2 - (0,l.length).1)).length=l.length:=by simp[strs_len,hlen]
     have c1 : ¬ ((i:Int)<(l.length:Int)):=by omega
     simp only[tick_eq,vec_0,vec_s,e,lss_i,c1,decide_false,some_bind,asBool_b,zF,if_false]
    | succ k ihk=>
     intro i u hi hsu hul hlk
     have hil:i<l.length:=by omega
     have hd:l.drop i=l[i]::l.drop (i+1):=zO hil
     obtain⟨⟨n,y⟩,hny⟩ : ∃ q,l[i]=q:=⟨_,rfl⟩
     rw[hny]at hd
     have hmem:(n,y)∈l:=by rw[← hny];exact List.getElem_mem _
     have hn1:(names l)[i]?=some n:=by simp[names,List.getElem?_map,zL hil,hny]
     have hy1:(valsL l)[i]?=some y:=by simp[valsL,List.getElem?_map,zL hil,hny]
     have hsd:=srt_drop hs i
     rw[hd]at hsd hlk
     obtain⟨hs1,hs2⟩:=srt_cons.1 hsd
     have hcur:lk n u=lk n (al t):=hlk n (by simp[names])
     have hne : ∀ m,m∈names (l.drop (i+1))→n≠m:=fun m hm=>lt_ne (hs1 m hm)
     have hnx : ∀ m,m∈names (l.drop (i+1))→lk m u=lk m (al t):=fun m hm=>hlk m (by simp only[names,List.map_cons,zS]at hm ⊢;exact .inr hm)
     have e0:((strs (names l)).drop (0,l.length).1).take ((0,l.length).2 - (0,l.length).1)=strs (names l):=by
      simp only[zU,Nat.sub_zero]
      exact zV (by rw[strs_len];omega)
     have cc:((i:Int)<(l.length:Int)):=by omega
     have w:=i64_succ (i:=i) (by omega)
     have hyw:weight y≤400000:=by have:weight y≤wA l:=wA_mem hmem;omega
     rw[hd]
     show _=some (0,vec [(obj (mrgA u (n::names (l.drop (i+1))) (y::valsL (l.drop (i+1))))).val])
     rw[mrgA]
     by_cases hk1:y.kind=1
     ·rw[if_pos hk1]
      rw[loopL_inl (a':=vec [.int .i64 ((i+1:Nat):Int),(obj (delA n u)).val])]
      ·exact ihk (i+1) _ (by omega) (srt_del hsu) (by have:=len_del n u;omega) (fun m hm=>by rw[lk_del hsu,if_neg (hne m hm)];exact hnx m hm)
      ·unfold L_merge_Merge_1
       simp only[tick_eq,vec_0,vec_s,e0,strs_len,hlen,lss_i,cc,decide_true,some_bind,asBool_b,if_true,asSl_strs,idx_nat _ i l.length hil,strs_get,hn1,zC,fld_str,fld7,asSl_trs,trs_len,obj_v,hlen2,trs_get,hy1,fld0,eql_i,hk1,unset_obj u n (by omega),okN_tree,tst_t,add_i,w]
     ·rw[if_neg hk1]
      have hwas:OrdT ((lk n (al t)).getD null)∧weight ((lk n (al t)).getD null)≤400000:=by
       cases hx:lk n (al t)with
       | none=>exact⟨.null,by show weight Ev.null≤_;rw[weight_eq];decide⟩
       | some x=>exact⟨hot.al_ord _ (lk_mem hx),by have:weight x≤wA (al t):=wA_mem (lk_mem hx);have:=al_weight hot;show weight x≤_;omega⟩
      have hrec:=ihq _ hmem _ hwas.1 hwas.2 hyw
      rw[hcur]
      rw[loopL_inl (a':=vec [.int .i64 ((i+1:Nat):Int),(obj (setA n (mrg ((lk n (al t)).getD null) y) u)).val])]
      ·exact ihk (i+1) _ (by omega) (srt_set hsu) (by have:=len_set n (mrg ((lk n (al t)).getD null) y) u;omega) (fun m hm=>by rw[lk_set hsu,if_neg (hne m hm)];exact hnx m hm)
      ·unfold L_merge_Merge_1
       cases hx:lk n (al t)with
       | none=>
        rw[hx]at hrec hcur
        simp only[Option.getD_none]at hrec ⊢
        have hmv:memV n u = .tup [Tree.zero.val,.bool false]:=by unfold memV;rw[hcur]
        rw[null_val]at hrec
        simp only[tick_eq,vec_0,vec_s,e0,strs_len,hlen,lss_i,cc,decide_true,some_bind,asBool_b,if_true,asSl_strs,idx_nat _ i l.length hil,strs_get,hn1,zC,fld_str,fld7,asSl_trs,trs_len,obj_v,hlen2,trs_get,hy1,fld0,eql_i,hk1,decide_false,zF,if_false,member_obj u n (by omega),hmv,ext_tup,zM,zN,okN_tree,tst_t,not_b,zI,hrec,set_obj u n _ hsu (by omega),add_i,w]
       | some x=>
        rw[hx]at hrec hcur
        simp only[Option.getD_some]at hrec ⊢
        have hmv:memV n u = .tup [x.val,.bool true]:=by unfold memV;rw[hcur]
        have hxv:=x.val_eq
        rw[hxv]at hrec
        simp only[tick_eq,vec_0,vec_s,e0,strs_len,hlen,lss_i,cc,decide_true,some_bind,asBool_b,if_true,asSl_strs,idx_nat _ i l.length hil,strs_get,hn1,zC,fld_str,fld7,asSl_trs,trs_len,obj_v,hlen2,trs_get,hy1,fld0,eql_i,hk1,decide_false,zF,if_false,member_obj u n (by omega),hmv,ext_tup,zM,zN,okN_tree,tst_t,not_b,zH,fld1,fld2,fld3,fld4,fld5,fld6,hrec,set_obj u n _ hsu (by omega),add_i,w]
   have h0:=loop l.length 0 (al t) (by omega) ps (by omega) (fun n _=>rfl)
   rw[zU,show((0:Nat):Int)=0 from rfl]at h0
   rw[mrg_obj,eq_merge_Merge]
   unfold F_merge_Merge
   have hkv:(obj l).kind=7:=rfl
   have hm:minV (.int .i64 (l.length:Int)) [.int .i64 (l.length:Int)]=some (.int .i64 (l.length:Int)):=by simp[minV]
   have hb:=bnd_to .i64 (l.length:Int) l.length ⟨zY _,by omega⟩
   rw[Int.toNat_natCast]at hb
   have hk6:(obj l).k=names l:=rfl
   by_cases hk:t.kind=7
   ·have ht:t=obj (al t):=by cases hot with | mk _ h _ _ _ _ _=>exact h hk
    have htv:=t.val_eq
    have e9:V.agg [.int .i64 t.kind,.bool t.b,.bool t.n.neg,.sl (limbs t.n.m),.int .i64 t.n.e,.str t.s,.sl (strs t.k),.sl (trs t.v)]=(obj (al t)).val:=by rw[← t.val_eq,← ht]
    rw[hk]at e9
    simp only[tick_eq,okN_tree,tst_t,fld0,some_bind,neq_i,hkv,decide_true,zH,asBool_b,zF,if_false,hk,fld1,fld2,fld3,fld4,fld5,fld6,fld7,vec_0,vec_s,hk6,obj_v,lenV_sl,strs_len,trs_len,hlen,hlen2,hm,asSl_strs,hb,e9,h0]
   ·have ha:=al_of hk
    rw[ha]at h0 ⊢
    rw[obj_nil_val]at h0
    simp only[tick_eq,okN_tree,tst_t,fld0,some_bind,neq_i,hkv,decide_true,zH,asBool_b,zF,if_false,hk,decide_false,zI,if_true,fld6,fld7,vec_0,vec_s,hk6,obj_v,lenV_sl,strs_len,trs_len,hlen,hlen2,hm,asSl_strs,hb,h0]
  ·rw[mrg_no hk,eq_merge_Merge]
   unfold F_merge_Merge
   simp only[tick_eq,okN_tree,tst_t,fld0,some_bind,neq_i,hk,decide_false,zI,asBool_b,if_true]
theorem rmerge_ord{p:Tree}(hp:OrdT p) : ∀ t,OrdT t→weight t≤400000→weight p≤400000→P0 f_ref16_Merge [.v t.val,.v p.val] []=some ((mrg t p).val,[]):=by
 induction hp with
 | mk p hpo hs hp1 hp2 hp3 hv ih=>
  intro t hot hwt hwp
  by_cases hk:p.kind=7
  ·have hpe:=hpo hk
   have hpv:p.v=valsL (al p):=congrArg Tree.v hpe
   have ihq : ∀ q,q∈al p → ∀ t,OrdT t→weight t≤400000→weight q.2≤400000→P0 f_ref16_Merge [.v t.val,.v q.2.val] []=some ((mrg t q.2).val,[]):=fun q hq=>ih q.2 (by rw[hpv];exact List.mem_map.2 ⟨q,hq,rfl⟩)
   generalize al p=l at *
   subst hpe
   have hsz:=weight_obj l
   have hl0:=len_wA l
   have hlen:(names l).length=l.length:=names_len l
   have hlen2:(valsL l).length=l.length:=valsL_len l
   have hu0:(al t).length≤400000:=by have:=al_weight hot;have:=len_wA (al t);omega
   have ps:=hot.al_srt
   have hk6:(obj l).k=names l:=rfl
   -- the loop
   have loop : ∀ k i u,i+k=l.length→SrtA u→u.length≤400000+i→(∀ n,n∈names (l.drop i)→lk n u=lk n (al t)) →
     loopL (L_ref16_Merge_1 (obj l).val) (vec [.int .i64 (i:Int),(obj u).val])=some (0,vec [(obj (mrgA u (names (l.drop i)) (valsL (l.drop i)))).val]):=by
    intro k
    induction k with
    | zero=>
     intro i u hi hsu hul hlk
     rw[zQ (by omega)]
     have hr:mrgA u (names []) (valsL [])=u:=by simp[names,valsL,mrgA]
     rw[hr]
     apply loopL_inr
     unfold L_ref16_Merge_1
     have e:True:=trivial
     have c1 : ¬ ((i:Int)<(l.length:Int)):=by omega
     simp only[tick_eq,vec_0,vec_s,fld6,hk6,lenV_sl,strs_len,hlen,lss_i,c1,decide_false,some_bind,asBool_b,zF,if_false]
    | succ k ihk=>
     intro i u hi hsu hul hlk
     have hil:i<l.length:=by omega
     have hd:l.drop i=l[i]::l.drop (i+1):=zO hil
     obtain⟨⟨n,y⟩,hny⟩ : ∃ q,l[i]=q:=⟨_,rfl⟩
     rw[hny]at hd
     have hmem:(n,y)∈l:=by rw[← hny];exact List.getElem_mem _
     have hn1:(names l)[i]?=some n:=by simp[names,List.getElem?_map,zL hil,hny]
     have hy1:(valsL l)[i]?=some y:=by simp[valsL,List.getElem?_map,zL hil,hny]
     have hsd:=srt_drop hs i
     rw[hd]at hsd hlk
     obtain⟨hs1,hs2⟩:=srt_cons.1 hsd
     have hcur:lk n u=lk n (al t):=hlk n (by simp[names])
     have hne : ∀ m,m∈names (l.drop (i+1))→n≠m:=fun m hm=>lt_ne (hs1 m hm)
     have hnx : ∀ m,m∈names (l.drop (i+1))→lk m u=lk m (al t):=fun m hm=>hlk m (by simp only[names,List.map_cons,zS]at hm ⊢;exact .inr hm)
     have e0:((strs (names l)).drop (0,l.length).1).take ((0,l.length).2 - (0,l.length).1)=strs (names l):=by
      simp only[zU,Nat.sub_zero]
      exact zV (by rw[strs_len];omega)
     have cc:((i:Int)<(l.length:Int)):=by omega
     have w:=i64_succ (i:=i) (by omega)
     have hyw:weight y≤400000:=by have:weight y≤wA l:=wA_mem hmem;omega
     rw[hd]
     show _=some (0,vec [(obj (mrgA u (n::names (l.drop (i+1))) (y::valsL (l.drop (i+1))))).val])
     rw[mrgA]
     by_cases hk1:y.kind=1
     ·rw[if_pos hk1]
      rw[loopL_inl (a':=vec [.int .i64 ((i+1:Nat):Int),(obj (delA n u)).val])]
      ·exact ihk (i+1) _ (by omega) (srt_del hsu) (by have:=len_del n u;omega) (fun m hm=>by rw[lk_del hsu,if_neg (hne m hm)];exact hnx m hm)
      ·unfold L_ref16_Merge_1
       simp only[tick_eq,vec_0,vec_s,fld6,hk6,lenV_sl,strs_len,hlen,lss_i,cc,decide_true,some_bind,asBool_b,if_true,asSl_strs,idx_nat _ i l.length hil,strs_get,hn1,zC,fld_str,fld7,asSl_trs,trs_len,obj_v,hlen2,trs_get,hy1,fld0,eql_i,hk1,runset_obj u n (by omega),okN_tree,tst_t,add_i,w]
     ·rw[if_neg hk1]
      have hwas:OrdT ((lk n (al t)).getD null)∧weight ((lk n (al t)).getD null)≤400000:=by
       cases hx:lk n (al t)with
       | none=>exact⟨.null,by show weight Ev.null≤_;rw[weight_eq];decide⟩
       | some x=>exact⟨hot.al_ord _ (lk_mem hx),by have:weight x≤wA (al t):=wA_mem (lk_mem hx);have:=al_weight hot;show weight x≤_;omega⟩
      have hrec:=ihq _ hmem _ hwas.1 hwas.2 hyw
      rw[hcur]
      rw[loopL_inl (a':=vec [.int .i64 ((i+1:Nat):Int),(obj (setA n (mrg ((lk n (al t)).getD null) y) u)).val])]
      ·exact ihk (i+1) _ (by omega) (srt_set hsu) (by have:=len_set n (mrg ((lk n (al t)).getD null) y) u;omega) (fun m hm=>by rw[lk_set hsu,if_neg (hne m hm)];exact hnx m hm)
      ·unfold L_ref16_Merge_1
       cases hx:lk n (al t)with
       | none=>
        rw[hx]at hrec hcur
        simp only[Option.getD_none]at hrec ⊢
        have hmv:memV n u = .tup [Tree.zero.val,.bool false]:=by unfold memV;rw[hcur]
        rw[null_val]at hrec
        simp only[tick_eq,vec_0,vec_s,fld6,hk6,lenV_sl,strs_len,hlen,lss_i,cc,decide_true,some_bind,asBool_b,if_true,asSl_strs,idx_nat _ i l.length hil,strs_get,hn1,zC,fld_str,fld7,asSl_trs,trs_len,obj_v,hlen2,trs_get,hy1,fld0,eql_i,hk1,decide_false,zF,if_false,rmember_obj u n (by omega),hmv,ext_tup,zM,zN,okN_tree,tst_t,not_b,zI,hrec,rset_obj u n _ hsu (by omega),add_i,w]
       | some x=>
        rw[hx]at hrec hcur
        simp only[Option.getD_some]at hrec ⊢
        have hmv:memV n u = .tup [x.val,.bool true]:=by unfold memV;rw[hcur]
        have hxv:=x.val_eq
        rw[hxv]at hrec
        simp only[tick_eq,vec_0,vec_s,fld6,hk6,lenV_sl,strs_len,hlen,lss_i,cc,decide_true,some_bind,asBool_b,if_true,asSl_strs,idx_nat _ i l.length hil,strs_get,hn1,zC,fld_str,fld7,asSl_trs,trs_len,obj_v,hlen2,trs_get,hy1,fld0,eql_i,hk1,decide_false,zF,if_false,rmember_obj u n (by omega),hmv,ext_tup,zM,zN,okN_tree,tst_t,not_b,zH,fld1,fld2,fld3,fld4,fld5,fld6,hrec,rset_obj u n _ hsu (by omega),add_i,w]
   have h0:=loop l.length 0 (al t) (by omega) ps (by omega) (fun n _=>rfl)
   rw[zU,show((0:Nat):Int)=0 from rfl]at h0
   rw[mrg_obj,eq_ref16_Merge]
   unfold F_ref16_Merge
   have hkv:(obj l).kind=7:=rfl
   have hm:minV (.int .i64 (l.length:Int)) [.int .i64 (l.length:Int)]=some (.int .i64 (l.length:Int)):=by simp[minV]
   have hb:=bnd_to .i64 (l.length:Int) l.length ⟨zY _,by omega⟩
   rw[Int.toNat_natCast]at hb
   by_cases hk:t.kind=7
   ·have ht:t=obj (al t):=by cases hot with | mk _ h _ _ _ _ _=>exact h hk
    have ev:t.val=(obj (al t)).val:=congrArg Tree.val ht
    rw[← ev]at h0
    simp only[tick_eq,okN_tree,tst_t,fld0,some_bind,neq_i,eql_i,hkv,decide_true,zH,asBool_b,zF,if_false,hk,if_true,vec_0,h0]
   ·have ha:=al_of hk
    rw[ha]at h0 ⊢
    rw[obj_nil_val]at h0
    simp only[tick_eq,okN_tree,tst_t,fld0,some_bind,neq_i,eql_i,hkv,decide_true,zH,asBool_b,zF,if_false,hk,decide_false,zI,if_true,fld6,fld7,vec_0,vec_s,hk6,obj_v,lenV_sl,strs_len,trs_len,hlen,hlen2,hm,asSl_strs,hb,h0]
  ·rw[mrg_no hk,eq_ref16_Merge]
   unfold F_ref16_Merge
   simp only[tick_eq,okN_tree,tst_t,fld0,some_bind,neq_i,hk,decide_false,zI,asBool_b,if_true]
end Go.Ev
