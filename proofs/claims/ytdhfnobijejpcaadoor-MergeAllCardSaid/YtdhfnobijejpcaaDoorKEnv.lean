/- The functions' table stands for the loaded program's. -/
import Derived.Test.YtdhfnobijejpcaaDoorKTx
import Derived.Test.YtdhfnobijejpcaaDoorProg
import Derived.KernelRfl
set_option linter.all false
namespace Go.Ev
def kl(l:List (List Nat))(i:Nat):List Nat:=(l[i]?).getD []
def kd:List (Nat×List Nat×List Nat×List Nat)→Nat→List Nat×List Nat×List Nat
 | [],_=>([],[],[])
 | (j,x)::r,i=>if i=j then x else kd r i
theorem good_law16_MergeAll:Good Go.Proofs.Tryd.prog (tiOf Go.Proofs.Tryd.prog) f_law16_MergeAll n_law16_MergeAll:=
 ⟨Go.Proofs.Tryd.f6,_,kl [[2,3,4],[2,3,4,18],[6],[2,3,4,7,8],[3,4,7,8,9,10],[3,4,52],[6],[3,4,60],[6],[6]],kd [(3,([],[9],[0,1,2,3,4,5,6,7,8])),(5,([],[],[0,1,2,3,4,5,6,7,8,9,10,11,12,13,14,15,16])),(9,([],[],[0,1,2,3,4,5,6]))],Go.Proofs.Tryd.func6,by kernel_rfl,rfl,by kernel_rfl,by kernel_rfl⟩
theorem good_tree_Check:Good Go.Proofs.Tryd.prog (tiOf Go.Proofs.Tryd.prog) f_tree_Check n_tree_Check:=
 ⟨Go.Proofs.Tryd.f9,_,kl [[1],[1,3],[2]],kd [],Go.Proofs.Tryd.func9,by kernel_rfl,rfl,by kernel_rfl,by kernel_rfl⟩
theorem good_tree_Depth:Good Go.Proofs.Tryd.prog (tiOf Go.Proofs.Tryd.prog) f_tree_Depth n_tree_Depth:=
 ⟨Go.Proofs.Tryd.f10,_,kl [[1],[1,3],[3,7,8,9],[3,7,8,9,10],[3,5,7,8,9],[3,7,8,9],[3,7,8,9],[2]],kd [],Go.Proofs.Tryd.func10,by kernel_rfl,rfl,by kernel_rfl,by kernel_rfl⟩
theorem good_tree_Weight:Good Go.Proofs.Tryd.prog (tiOf Go.Proofs.Tryd.prog) f_tree_Weight n_tree_Weight:=
 ⟨Go.Proofs.Tryd.f11,_,kl [[1],[1,3],[1,3,7],[1,3,7,8],[1,3],[1,3,7,16],[1,3,16],[1,3],[3,25,26,27],[3,25,26,27,28],[3,5,25,26,27],[3,25,26,27],[3,25,26,27],[2]],kd [],Go.Proofs.Tryd.func11,by kernel_rfl,rfl,by kernel_rfl,by kernel_rfl⟩
theorem good_law00_Tree:Good Go.Proofs.Tryd.prog (tiOf Go.Proofs.Tryd.prog) f_law00_Tree n_law00_Tree:=
 ⟨Go.Proofs.Tryd.f14,_,kl [[1,2],[1,2,3],[1,2,3,4],[1,2,3,4,22],[1,2,3,4],[1,2,3,4],[2]],kd [(1,([],[13],[0,1,2,3,4,5,6,7,8,9,10,11,12])),(5,([],[],[0,1,2,3,4,5,6,7,8]))],Go.Proofs.Tryd.func14,by kernel_rfl,rfl,by kernel_rfl,by kernel_rfl⟩
theorem good_tree_Nodes:Good Go.Proofs.Tryd.prog (tiOf Go.Proofs.Tryd.prog) f_tree_Nodes n_tree_Nodes:=
 ⟨Go.Proofs.Tryd.f16,_,kl [[1],[1,3],[3,7,8,9],[3,7,8,9,10],[3,5,7,8,9],[3,7,8,9],[3,7,8,9],[2]],kd [],Go.Proofs.Tryd.func16,by kernel_rfl,rfl,by kernel_rfl,by kernel_rfl⟩
theorem good_law00_Light:Good Go.Proofs.Tryd.prog (tiOf Go.Proofs.Tryd.prog) f_law00_Light n_law00_Light:=
 ⟨Go.Proofs.Tryd.f17,_,kl [[1,2],[4]],kd [],Go.Proofs.Tryd.func17,by kernel_rfl,rfl,by kernel_rfl,by kernel_rfl⟩
theorem good_law16_awake:Good Go.Proofs.Tryd.prog (tiOf Go.Proofs.Tryd.prog) f_law16_awake n_law16_awake:=
 ⟨Go.Proofs.Tryd.f18,_,kl [[],[1],[2],[0]],kd [],Go.Proofs.Tryd.func18,by kernel_rfl,rfl,by kernel_rfl,by kernel_rfl⟩
theorem good_merge_Apply:Good Go.Proofs.Tryd.prog (tiOf Go.Proofs.Tryd.prog) f_merge_Apply n_merge_Apply:=
 ⟨Go.Proofs.Tryd.f19,_,kl [[2,3,4,6],[2,3,4,6,16],[6,7],[2,6,8],[6,8,24],[6,7],[6,7]],kd [],Go.Proofs.Tryd.func19,by kernel_rfl,rfl,by kernel_rfl,by kernel_rfl⟩
theorem good_ref16_Apply:Good Go.Proofs.Tryd.prog (tiOf Go.Proofs.Tryd.prog) f_ref16_Apply n_ref16_Apply:=
 ⟨Go.Proofs.Tryd.f20,_,kl [[2,3,4,6],[2,3,4,6,16],[6,7],[2,6,8],[6,8,24],[6,7],[6,7]],kd [],Go.Proofs.Tryd.func20,by kernel_rfl,rfl,by kernel_rfl,by kernel_rfl⟩
theorem good_law00_SameTree:Good Go.Proofs.Tryd.prog (tiOf Go.Proofs.Tryd.prog) f_law00_SameTree n_law00_SameTree:=
 ⟨Go.Proofs.Tryd.f21,_,kl [[2,3],[2,3,49],[4],[2,3,5],[2,3,5,54],[2,3,5],[2,3,5,68],[4],[4]],kd [(6,([],[],[0,1,2,3,4,5,6,7,8,9]))],Go.Proofs.Tryd.func21,by kernel_rfl,rfl,by kernel_rfl,by kernel_rfl⟩
theorem good_merge_Clean:Good Go.Proofs.Tryd.prog (tiOf Go.Proofs.Tryd.prog) f_merge_Clean n_merge_Clean:=
 ⟨Go.Proofs.Tryd.f22,_,kl [[1],[2]],kd [],Go.Proofs.Tryd.func22,by kernel_rfl,rfl,by kernel_rfl,by kernel_rfl⟩
theorem good_ref16_Clean:Good Go.Proofs.Tryd.prog (tiOf Go.Proofs.Tryd.prog) f_ref16_Clean n_ref16_Clean:=
 ⟨Go.Proofs.Tryd.f23,_,kl [[1],[1,3],[1,3,13],[1,3],[1,3,31],[2],[2]],kd [],Go.Proofs.Tryd.func23,by kernel_rfl,rfl,by kernel_rfl,by kernel_rfl⟩
theorem good_ref05_Check:Good Go.Proofs.Tryd.prog (tiOf Go.Proofs.Tryd.prog) f_ref05_Check n_ref05_Check:=
 ⟨Go.Proofs.Tryd.f24,_,kl [[1],[2]],kd [],Go.Proofs.Tryd.func24,by kernel_rfl,rfl,by kernel_rfl,by kernel_rfl⟩
theorem good_ref05_Same:Good Go.Proofs.Tryd.prog (tiOf Go.Proofs.Tryd.prog) f_ref05_Same n_ref05_Same:=
 ⟨Go.Proofs.Tryd.f25,_,kl [[2,3],[2,3,11],[4],[2,3,13],[2,3,13,14],[4],[2,3,13,21],[4],[2,3,13,28],[2,3,13,28],[4],[2,3,13,36],[2,3,36],[2,3,59],[4],[2,3,5],[2,3,5,69],[2,3,5],[2,3,5,82],[4],[2,3,6],[2,3,6,87],[2,3,6],[2,3,6,101],[4],[4]],kd [(18,([],[],[0,1,2,3,4,5,6,7,8,9])),(23,([],[],[0,1,2,3,4,5,6,7,8,9]))],Go.Proofs.Tryd.func25,by kernel_rfl,rfl,by kernel_rfl,by kernel_rfl⟩
theorem good_merge_Merge:Good Go.Proofs.Tryd.prog (tiOf Go.Proofs.Tryd.prog) f_merge_Merge n_merge_Merge:=
 ⟨Go.Proofs.Tryd.f26,_,kl [[2,3,4],[2,3,4,11],[4],[2,3,4,15],[2,3,4],[2,3,4,26,27,28],[2,3,4,26,27,28,29],[2,3,4,5,6,26,27,28],[2,3,4,5,6,26,27,28,39],[2,3,4,26,27,28],[2,3,4,5,6,7,8,26,27,28],[2,3,4,5,6,7,26,27,28,50],[2,3,4,5,6,7,26,27,28],[2,3,4,26,27,28],[2,3,4,26,27,28],[4]],kd [(13,([],[],[0,1,2,3,4,5,6,7,8]))],Go.Proofs.Tryd.func26,by kernel_rfl,rfl,by kernel_rfl,by kernel_rfl⟩
theorem good_ref16_Merge:Good Go.Proofs.Tryd.prog (tiOf Go.Proofs.Tryd.prog) f_ref16_Merge n_ref16_Merge:=
 ⟨Go.Proofs.Tryd.f27,_,kl [[2,3,4],[2,3,4,11],[4],[2,3,4,5],[2,3,4,5,16],[3,4,5],[3,4,5,6],[3,4,5,6,29],[3,4,5,6],[3,4,5,6,38],[3,4,5,6],[3,4,5,6,7,8],[3,4,5,6,7,57],[3,4,5,6,7],[3,4,5,6],[4]],kd [(10,([],[],[0,1,2,3,4,5])),(11,([],[10],[0,1,2,3,4,5,6,7,8,9])),(14,([],[],[0,1,2,3,4,5,6,7,8,9,10,11,12]))],Go.Proofs.Tryd.func27,by kernel_rfl,rfl,by kernel_rfl,by kernel_rfl⟩
theorem good_tree_Set:Good Go.Proofs.Tryd.prog (tiOf Go.Proofs.Tryd.prog) f_tree_Set n_tree_Set:=
 ⟨Go.Proofs.Tryd.f28,_,kl [[3,4,5,6],[4,5,6,7,8],[4,5,6,7,8,9,10],[4,5,6,8,9,10],[4,5,6,9,10],[4,5,6,9,10,11],[4,5,6,9,10,11,34],[6,9,10],[6],[4,5,6,9,10,12],[4,5,6,9,10,12,46],[4,5,6,9,10,12],[6]],kd [(2,([0,1,3,4],[2,5],[6])),(12,([],[],[0,1,2,3,4,5,6,7,8]))],Go.Proofs.Tryd.func28,by kernel_rfl,rfl,by kernel_rfl,by kernel_rfl⟩
theorem good_tree_Member:Good Go.Proofs.Tryd.prog (tiOf Go.Proofs.Tryd.prog) f_tree_Member n_tree_Member:=
 ⟨Go.Proofs.Tryd.f29,_,kl [[1,2,4],[1,4,6,7],[4,7,8],[4,7,8,18],[4,5],[4,5]],kd [],Go.Proofs.Tryd.func29,by kernel_rfl,rfl,by kernel_rfl,by kernel_rfl⟩
theorem good_tree_Unset:Good Go.Proofs.Tryd.prog (tiOf Go.Proofs.Tryd.prog) f_tree_Unset n_tree_Unset:=
 ⟨Go.Proofs.Tryd.f30,_,kl [[1,2,4],[1,2,4,5,6],[2,4,5,6,7],[2,4,5,6,7,17],[4],[4]],kd [(5,([],[],[0,1,2,3,4,5,6,7,8,9,10,11,12,13,14,15,16]))],Go.Proofs.Tryd.func30,by kernel_rfl,rfl,by kernel_rfl,by kernel_rfl⟩
theorem good_tree_check:Good Go.Proofs.Tryd.prog (tiOf Go.Proofs.Tryd.prog) f_tree_check n_tree_check:=
 ⟨Go.Proofs.Tryd.f31,_,kl [[1,2,3],[1,2,3],[1,2,3,26],[6],[1,2,28,29,30],[1,2,28,29,30,31],[1,2,8,28,29,30],[1,2,28,29,30,39],[6],[1,2,28,29,30],[6]],kd [],Go.Proofs.Tryd.func31,by kernel_rfl,rfl,by kernel_rfl,by kernel_rfl⟩
theorem good_law00_Num:Good Go.Proofs.Tryd.prog (tiOf Go.Proofs.Tryd.prog) f_law00_Num n_law00_Num:=
 ⟨Go.Proofs.Tryd.f33,_,kl [[1,2],[2]],kd [(1,([],[],[0,1,2,3,4,5,6]))],Go.Proofs.Tryd.func33,by kernel_rfl,rfl,by kernel_rfl,by kernel_rfl⟩
theorem good_law00_Strings:Good Go.Proofs.Tryd.prog (tiOf Go.Proofs.Tryd.prog) f_law00_Strings n_law00_Strings:=
 ⟨Go.Proofs.Tryd.f34,_,kl [[0],[2]],kd [],Go.Proofs.Tryd.func34,by kernel_rfl,rfl,by kernel_rfl,by kernel_rfl⟩
theorem good_law00_light:Good Go.Proofs.Tryd.prog (tiOf Go.Proofs.Tryd.prog) f_law00_light n_law00_light:=
 ⟨Go.Proofs.Tryd.f38,_,kl [[1,2],[1,2],[1,2,31],[4],[1,2,5],[1,2,5,36],[1,2,5],[1,2,5,45],[4],[1,2,6],[1,2,6,54],[1,2,6],[1,2,6],[4]],kd [],Go.Proofs.Tryd.func38,by kernel_rfl,rfl,by kernel_rfl,by kernel_rfl⟩
theorem good_merge_fits:Good Go.Proofs.Tryd.prog (tiOf Go.Proofs.Tryd.prog) f_merge_fits n_merge_fits:=
 ⟨Go.Proofs.Tryd.f39,_,kl [[1,2],[4]],kd [],Go.Proofs.Tryd.func39,by kernel_rfl,rfl,by kernel_rfl,by kernel_rfl⟩
theorem good_ref15_Fits:Good Go.Proofs.Tryd.prog (tiOf Go.Proofs.Tryd.prog) f_ref15_Fits n_ref15_Fits:=
 ⟨Go.Proofs.Tryd.f40,_,kl [[1,2],[4]],kd [],Go.Proofs.Tryd.func40,by kernel_rfl,rfl,by kernel_rfl,by kernel_rfl⟩
theorem good_law00_SameNum:Good Go.Proofs.Tryd.prog (tiOf Go.Proofs.Tryd.prog) f_law00_SameNum n_law00_SameNum:=
 ⟨Go.Proofs.Tryd.f41,_,kl [[2,3],[4]],kd [],Go.Proofs.Tryd.func41,by kernel_rfl,rfl,by kernel_rfl,by kernel_rfl⟩
theorem good_law00_SameStrings:Good Go.Proofs.Tryd.prog (tiOf Go.Proofs.Tryd.prog) f_law00_SameStrings n_law00_SameStrings:=
 ⟨Go.Proofs.Tryd.f42,_,kl [[0,1],[0,1,10],[4],[0,1,5],[0,1,5,14],[0,1,5],[0,1,5,25],[4],[4]],kd [(6,([],[],[0,1,2,3,4,5,6,7]))],Go.Proofs.Tryd.func42,by kernel_rfl,rfl,by kernel_rfl,by kernel_rfl⟩
theorem good_slices_ContainsFunc_aT:Good Go.Proofs.Tryd.prog (tiOf Go.Proofs.Tryd.prog) f_slices_ContainsFunc_aT n_slices_ContainsFunc_aT:=
 ⟨Go.Proofs.Tryd.f43,_,kl [[0,1],[4]],kd [],Go.Proofs.Tryd.func43,by kernel_rfl,rfl,by kernel_rfl,by kernel_rfl⟩
theorem good_merge_Clean_1:Good Go.Proofs.Tryd.prog (tiOf Go.Proofs.Tryd.prog) f_merge_Clean_1 n_merge_Clean_1:=
 ⟨Go.Proofs.Tryd.f44,_,kl [[1],[2]],kd [],Go.Proofs.Tryd.func44,by kernel_rfl,rfl,by kernel_rfl,by kernel_rfl⟩
theorem good_ref05_walk:Good Go.Proofs.Tryd.prog (tiOf Go.Proofs.Tryd.prog) f_ref05_walk n_ref05_walk:=
 ⟨Go.Proofs.Tryd.f45,_,kl [[1,2,3],[1,2,3],[1,2,3,20],[6],[1,2,3,7],[1,2,3,7,29],[1,2,3,7],[1,2,3,7],[6]],kd [],Go.Proofs.Tryd.func45,by kernel_rfl,rfl,by kernel_rfl,by kernel_rfl⟩
theorem good_ref02_Same:Good Go.Proofs.Tryd.prog (tiOf Go.Proofs.Tryd.prog) f_ref02_Same n_ref02_Same:=
 ⟨Go.Proofs.Tryd.f46,_,kl [[2,3],[5,6],[4]],kd [(1,([],[4,5],[0,1,2,3]))],Go.Proofs.Tryd.func46,by kernel_rfl,rfl,by kernel_rfl,by kernel_rfl⟩
theorem good_ref05_Unset:Good Go.Proofs.Tryd.prog (tiOf Go.Proofs.Tryd.prog) f_ref05_Unset n_ref05_Unset:=
 ⟨Go.Proofs.Tryd.f47,_,kl [[1,2,4],[1,2,4,6],[1,2,4,17],[4],[1,2,4,7],[1,2,4,7,8],[1,2,4,7,8,9],[1,2,4,7,8,9,31],[1,2,4,7,8,9],[1,2,4,7,8,9,44],[1,2,4,7,8,9],[1,2,4,7,8,9],[4]],kd [(11,([],[],[0,1,2,3,4,5,6,7,8,9,10,11,12,13,14,15,16,17,18]))],Go.Proofs.Tryd.func47,by kernel_rfl,rfl,by kernel_rfl,by kernel_rfl⟩
theorem good_ref05_Member:Good Go.Proofs.Tryd.prog (tiOf Go.Proofs.Tryd.prog) f_ref05_Member n_ref05_Member:=
 ⟨Go.Proofs.Tryd.f48,_,kl [[1,2,4],[1,2,4,6],[1,2,4,6,23],[1,2,4,6],[1,2,4,6,32],[4,5],[4,5]],kd [],Go.Proofs.Tryd.func48,by kernel_rfl,rfl,by kernel_rfl,by kernel_rfl⟩
theorem good_ref05_Set:Good Go.Proofs.Tryd.prog (tiOf Go.Proofs.Tryd.prog) f_ref05_Set n_ref05_Set:=
 ⟨Go.Proofs.Tryd.f49,_,kl [[1,3,5,6],[1,3,5,6,7],[1,3,5,6,7,8],[1,3,5,6,7,8,10],[1,3,5,6,7,8,10,11],[1,3,5,6,7,8,10,11,35],[1,3,5,6,7,8,10,11],[1,3,5,6,7,8,10,11,38],[1,3,5,6,7,10,11],[1,3,5,6,7,8,10,11],[1,3,5,6,7,8,10,11,62],[1,3,5,6,7,10,11],[1,3,5,6,7,8,10,11],[1,3,5,6,7,8,10,11],[1,5,6,7,111],[6,7],[6]],kd [(8,([],[],[0,1,2,3,4,5,6,7,8,9,10])),(11,([],[],[0,1,2,3,4,5,6,7,8,9,10])),(13,([],[],[0,1,2,3,4,5,6,7,8,9,10,11,12,13,14,15,16,17,18])),(15,([],[],[0,1,2,3,4,5,6,7,8,9,10]))],Go.Proofs.Tryd.func49,by kernel_rfl,rfl,by kernel_rfl,by kernel_rfl⟩
theorem good_tree_cut:Good Go.Proofs.Tryd.prog (tiOf Go.Proofs.Tryd.prog) f_tree_cut n_tree_cut:=
 ⟨Go.Proofs.Tryd.f50,_,kl [[1],[1,7],[2,3],[1,4],[2,3]],kd [(4,([],[],[0,1,2,3,4,5,6,7,8,9,10]))],Go.Proofs.Tryd.func50,by kernel_rfl,rfl,by kernel_rfl,by kernel_rfl⟩
theorem good_slices_Index_string:Good Go.Proofs.Tryd.prog (tiOf Go.Proofs.Tryd.prog) f_slices_Index_string n_slices_Index_string:=
 ⟨Go.Proofs.Tryd.f51,_,kl [[0,1],[0,1,7,8],[0,1,7,8,9],[0,1,5,7,8],[0,1,5,7,8,16],[4],[0,1,7,8],[4]],kd [],Go.Proofs.Tryd.func51,by kernel_rfl,rfl,by kernel_rfl,by kernel_rfl⟩
theorem good_slices_IndexFunc_string:Good Go.Proofs.Tryd.prog (tiOf Go.Proofs.Tryd.prog) f_slices_IndexFunc_string n_slices_IndexFunc_string:=
 ⟨Go.Proofs.Tryd.f52,_,kl [[0,1],[0,1,7,8],[0,1,7,8,9],[0,1,5,7,8],[0,1,5,7,8,16],[4],[0,1,7,8],[4]],kd [],Go.Proofs.Tryd.func52,by kernel_rfl,rfl,by kernel_rfl,by kernel_rfl⟩
theorem good_tree_Set_1:Good Go.Proofs.Tryd.prog (tiOf Go.Proofs.Tryd.prog) f_tree_Set_1 n_tree_Set_1:=
 ⟨Go.Proofs.Tryd.f53,_,kl [[0,1],[3]],kd [],Go.Proofs.Tryd.func53,by kernel_rfl,rfl,by kernel_rfl,by kernel_rfl⟩
theorem good_slices_Concat_string:Good Go.Proofs.Tryd.prog (tiOf Go.Proofs.Tryd.prog) f_slices_Concat_string n_slices_Concat_string:=
 ⟨Go.Proofs.Tryd.f56,_,kl [[0],[0,3],[0,3,9,10,11],[0,3,9,10,11,12],[0,3,5,9,10,11],[0,3,9,10,11],[0,3,9,10,11,20],[0,3,9,10,11],[0,3,9,10,11],[0,6],[6,25,26,27],[6,25,26,27,28],[6,8,25,26,27],[6,25,26,27],[6,25,26,27],[2]],kd [],Go.Proofs.Tryd.func56,by kernel_rfl,rfl,by kernel_rfl,by kernel_rfl⟩
theorem good_slices_Concat_aT:Good Go.Proofs.Tryd.prog (tiOf Go.Proofs.Tryd.prog) f_slices_Concat_aT n_slices_Concat_aT:=
 ⟨Go.Proofs.Tryd.f57,_,kl [[0],[0,3],[0,3,9,10,11],[0,3,9,10,11,12],[0,3,5,9,10,11],[0,3,9,10,11],[0,3,9,10,11,20],[0,3,9,10,11],[0,3,9,10,11],[0,6],[6,25,26,27],[6,25,26,27,28],[6,8,25,26,27],[6,25,26,27],[6,25,26,27],[2]],kd [],Go.Proofs.Tryd.func57,by kernel_rfl,rfl,by kernel_rfl,by kernel_rfl⟩
theorem good_tree_own:Good Go.Proofs.Tryd.prog (tiOf Go.Proofs.Tryd.prog) f_tree_own n_tree_own:=
 ⟨Go.Proofs.Tryd.f58,_,kl [[1],[1,3,4,5],[1,3,4,5,6,7],[1,3,4,5,6,7,40],[1,3,4,5,6,7,40,41],[1,3,4,5,6,7,40,43],[1,3,4,5,6,7,40,45],[1,3,4,5,6,7,40,47],[1,3,4,5,6,7,40,49],[1,3,4,5,6,40,51],[1,3,4,5,6,53],[3,4,5,6,7],[3,4,5,6,7],[3,4,5,6,7],[3,4,5,6,7],[1,3,4,5,6],[3,4,5,6,7],[2],[2]],kd [(1,([],[],[0,1,2,3,4,5,6,7,8,9,10,11,12,13,14,15,16,17,18,19,20,21,22,23,24])),(2,([],[],[0,1,2,3,4,5,6,7,8]))],Go.Proofs.Tryd.func58,by kernel_rfl,rfl,by kernel_rfl,by kernel_rfl⟩
theorem good_law00_Limbs:Good Go.Proofs.Tryd.prog (tiOf Go.Proofs.Tryd.prog) f_law00_Limbs n_law00_Limbs:=
 ⟨Go.Proofs.Tryd.f61,_,kl [[0],[2]],kd [],Go.Proofs.Tryd.func61,by kernel_rfl,rfl,by kernel_rfl,by kernel_rfl⟩
theorem good_merge_few:Good Go.Proofs.Tryd.prog (tiOf Go.Proofs.Tryd.prog) f_merge_few n_merge_few:=
 ⟨Go.Proofs.Tryd.f64,_,kl [[1],[2]],kd [],Go.Proofs.Tryd.func64,by kernel_rfl,rfl,by kernel_rfl,by kernel_rfl⟩
theorem good_ref05_Weight:Good Go.Proofs.Tryd.prog (tiOf Go.Proofs.Tryd.prog) f_ref05_Weight n_ref05_Weight:=
 ⟨Go.Proofs.Tryd.f65,_,kl [[1],[1,3],[1,3,6],[1,3,6,7],[1,3],[1,3,6,15],[1,3,15],[1,3],[1,3,4],[1,3,4,27],[1,3,4],[1,3,4],[2]],kd [],Go.Proofs.Tryd.func65,by kernel_rfl,rfl,by kernel_rfl,by kernel_rfl⟩
theorem good_ref05_Nodes:Good Go.Proofs.Tryd.prog (tiOf Go.Proofs.Tryd.prog) f_ref05_Nodes n_ref05_Nodes:=
 ⟨Go.Proofs.Tryd.f66,_,kl [[1],[1,3],[1,3,4],[1,3,4,9],[1,3,4],[1,3,4],[2]],kd [],Go.Proofs.Tryd.func66,by kernel_rfl,rfl,by kernel_rfl,by kernel_rfl⟩
theorem good_ref05_Depth:Good Go.Proofs.Tryd.prog (tiOf Go.Proofs.Tryd.prog) f_ref05_Depth n_ref05_Depth:=
 ⟨Go.Proofs.Tryd.f67,_,kl [[1],[1,3],[1,3,4],[1,3,4,9],[1,3,4],[1,3,4],[2]],kd [],Go.Proofs.Tryd.func67,by kernel_rfl,rfl,by kernel_rfl,by kernel_rfl⟩
theorem good_ref15_wide:Good Go.Proofs.Tryd.prog (tiOf Go.Proofs.Tryd.prog) f_ref15_wide n_ref15_wide:=
 ⟨Go.Proofs.Tryd.f68,_,kl [[1],[1,3],[1,3,8],[1,3],[1,3,16],[2],[2]],kd [],Go.Proofs.Tryd.func68,by kernel_rfl,rfl,by kernel_rfl,by kernel_rfl⟩
theorem good_law00_SameLimbs:Good Go.Proofs.Tryd.prog (tiOf Go.Proofs.Tryd.prog) f_law00_SameLimbs n_law00_SameLimbs:=
 ⟨Go.Proofs.Tryd.f69,_,kl [[0,1],[0,1,10],[4],[0,1,5],[0,1,5,14],[0,1,5],[0,1,5,25],[4],[4]],kd [(6,([],[],[0,1,2,3,4,5,6,7]))],Go.Proofs.Tryd.func69,by kernel_rfl,rfl,by kernel_rfl,by kernel_rfl⟩
theorem good_slices_IndexFunc_aT:Good Go.Proofs.Tryd.prog (tiOf Go.Proofs.Tryd.prog) f_slices_IndexFunc_aT n_slices_IndexFunc_aT:=
 ⟨Go.Proofs.Tryd.f70,_,kl [[0,1],[0,1,7,8],[0,1,7,8,9],[0,1,5,7,8],[0,1,5,7,8,16],[4],[0,1,7,8],[4]],kd [],Go.Proofs.Tryd.func70,by kernel_rfl,rfl,by kernel_rfl,by kernel_rfl⟩
theorem good_ref05_fields:Good Go.Proofs.Tryd.prog (tiOf Go.Proofs.Tryd.prog) f_ref05_fields n_ref05_fields:=
 ⟨Go.Proofs.Tryd.f71,_,kl [[1],[1,62],[2],[1,64],[1,64,65],[1,64,65],[2],[1,64,68],[2],[1,64,73],[2],[1,64,84],[2],[1,64,90],[2],[1,96],[2],[2]],kd [],Go.Proofs.Tryd.func71,by kernel_rfl,rfl,by kernel_rfl,by kernel_rfl⟩
theorem good_ref02_Is:Good Go.Proofs.Tryd.prog (tiOf Go.Proofs.Tryd.prog) f_ref02_Is n_ref02_Is:=
 ⟨Go.Proofs.Tryd.f72,_,kl [[1,2],[1,2,4],[2],[2]],kd [],Go.Proofs.Tryd.func72,by kernel_rfl,rfl,by kernel_rfl,by kernel_rfl⟩
theorem good_ref01_Cmp:Good Go.Proofs.Tryd.prog (tiOf Go.Proofs.Tryd.prog) f_ref01_Cmp n_ref01_Cmp:=
 ⟨Go.Proofs.Tryd.f73,_,kl [[0,1],[0,1,5],[0,1,5,13],[0,1,5],[0,1,5,22],[4],[0,1,5,29],[4],[4]],kd [],Go.Proofs.Tryd.func73,by kernel_rfl,rfl,by kernel_rfl,by kernel_rfl⟩
theorem good_num_Check:Good Go.Proofs.Tryd.prog (tiOf Go.Proofs.Tryd.prog) f_num_Check n_num_Check:=
 ⟨Go.Proofs.Tryd.f80,_,kl [[1],[1,3],[1,3,10],[2],[1,39],[2],[5],[2]],kd [],Go.Proofs.Tryd.func80,by kernel_rfl,rfl,by kernel_rfl,by kernel_rfl⟩
theorem good_tree_text:Good Go.Proofs.Tryd.prog (tiOf Go.Proofs.Tryd.prog) f_tree_text n_tree_text:=
 ⟨Go.Proofs.Tryd.f81,_,kl [[0],[2]],kd [],Go.Proofs.Tryd.func81,by kernel_rfl,rfl,by kernel_rfl,by kernel_rfl⟩
theorem good_tree_names:Good Go.Proofs.Tryd.prog (tiOf Go.Proofs.Tryd.prog) f_tree_names n_tree_names:=
 ⟨Go.Proofs.Tryd.f82,_,kl [[0],[0,5,6,7],[0,5,6,7,8],[0,3,4,5,6,7],[0,5,6,7,27],[2],[0,5,6,7],[2]],kd [],Go.Proofs.Tryd.func82,by kernel_rfl,rfl,by kernel_rfl,by kernel_rfl⟩
theorem good_merge_few_1:Good Go.Proofs.Tryd.prog (tiOf Go.Proofs.Tryd.prog) f_merge_few_1 n_merge_few_1:=
 ⟨Go.Proofs.Tryd.f85,_,kl [[1],[2]],kd [],Go.Proofs.Tryd.func85,by kernel_rfl,rfl,by kernel_rfl,by kernel_rfl⟩
theorem good_ref05_zero:Good Go.Proofs.Tryd.prog (tiOf Go.Proofs.Tryd.prog) f_ref05_zero n_ref05_zero:=
 ⟨Go.Proofs.Tryd.f86,_,kl [[1],[2]],kd [],Go.Proofs.Tryd.func86,by kernel_rfl,rfl,by kernel_rfl,by kernel_rfl⟩
theorem good_ref02_Check:Good Go.Proofs.Tryd.prog (tiOf Go.Proofs.Tryd.prog) f_ref02_Check n_ref02_Check:=
 ⟨Go.Proofs.Tryd.f87,_,kl [[1],[1,3],[1,3,10],[2],[1,39],[2],[5],[2]],kd [],Go.Proofs.Tryd.func87,by kernel_rfl,rfl,by kernel_rfl,by kernel_rfl⟩
theorem good_ref04_Valid:Good Go.Proofs.Tryd.prog (tiOf Go.Proofs.Tryd.prog) f_ref04_Valid n_ref04_Valid:=
 ⟨Go.Proofs.Tryd.f88,_,kl [[0],[3],[3,4],[3,4,10],[3,4],[3,4,17],[2],[2]],kd [],Go.Proofs.Tryd.func88,by kernel_rfl,rfl,by kernel_rfl,by kernel_rfl⟩
theorem good_ref05_names:Good Go.Proofs.Tryd.prog (tiOf Go.Proofs.Tryd.prog) f_ref05_names n_ref05_names:=
 ⟨Go.Proofs.Tryd.f89,_,kl [[0],[0,3],[0,3,7],[0,3],[0,3,39],[2],[2]],kd [(4,([],[],[0,1,2,3,4,5,6,7,8,9,10,11,12,13,14,15,16,17,18,19,20,21,22,23,24,25,26,27,28,29]))],Go.Proofs.Tryd.func89,by kernel_rfl,rfl,by kernel_rfl,by kernel_rfl⟩
theorem good_ref01_limb:Good Go.Proofs.Tryd.prog (tiOf Go.Proofs.Tryd.prog) f_ref01_limb n_ref01_limb:=
 ⟨Go.Proofs.Tryd.f90,_,kl [[0,1],[0,1,8],[4],[4]],kd [],Go.Proofs.Tryd.func90,by kernel_rfl,rfl,by kernel_rfl,by kernel_rfl⟩
theorem good_nat_Trim:Good Go.Proofs.Tryd.prog (tiOf Go.Proofs.Tryd.prog) f_nat_Trim n_nat_Trim:=
 ⟨Go.Proofs.Tryd.f93,_,kl [[0],[0],[0,4],[0,4,11],[0,4,5,6],[0,4,5,18],[0,4],[0,4],[2,3]],kd [],Go.Proofs.Tryd.func93,by kernel_rfl,rfl,by kernel_rfl,by kernel_rfl⟩
theorem good_utf_Valid:Good Go.Proofs.Tryd.prog (tiOf Go.Proofs.Tryd.prog) f_utf_Valid n_utf_Valid:=
 ⟨Go.Proofs.Tryd.f94,_,kl [[0],[0,8],[0,8,9,10],[0,3,4,8],[0,3,8,14],[0,6,8],[0,8,23],[2],[2]],kd [],Go.Proofs.Tryd.func94,by kernel_rfl,rfl,by kernel_rfl,by kernel_rfl⟩
theorem good_ref01_Small:Good Go.Proofs.Tryd.prog (tiOf Go.Proofs.Tryd.prog) f_ref01_Small n_ref01_Small:=
 ⟨Go.Proofs.Tryd.f96,_,kl [[0,1],[0,1,6],[0,1,6,7],[0,1,6,7,8],[0,1,6,7,8,16],[0,1,6,7,8],[0,1,6,7,8],[0,1,6,7,8],[0,1,6,7,8],[4,5]],kd [],Go.Proofs.Tryd.func96,by kernel_rfl,rfl,by kernel_rfl,by kernel_rfl⟩
theorem good_ref04_Runes:Good Go.Proofs.Tryd.prog (tiOf Go.Proofs.Tryd.prog) f_ref04_Runes n_ref04_Runes:=
 ⟨Go.Proofs.Tryd.f97,_,kl [[0],[0,3],[0,3,4],[0,3,4,10],[0,3,4,5,6],[0,3,4,6],[0,3,4],[2]],kd [],Go.Proofs.Tryd.func97,by kernel_rfl,rfl,by kernel_rfl,by kernel_rfl⟩
theorem good_nat_Norm:Good Go.Proofs.Tryd.prog (tiOf Go.Proofs.Tryd.prog) f_nat_Norm n_nat_Norm:=
 ⟨Go.Proofs.Tryd.f100,_,kl [[0],[0,3],[0,3,16],[0,3],[0,3,20],[2],[0,4],[4],[2]],kd [],Go.Proofs.Tryd.func100,by kernel_rfl,rfl,by kernel_rfl,by kernel_rfl⟩
theorem good_nat_small:Good Go.Proofs.Tryd.prog (tiOf Go.Proofs.Tryd.prog) f_nat_small n_nat_small:=
 ⟨Go.Proofs.Tryd.f101,_,kl [[0,1],[0,1,6],[0,1,6,7],[0,1,6,7,8],[0,1,6,7,8,16],[0,1,6,7,8],[0,1,6,7,8],[0,1,6,7,8],[0,1,6,7,8],[4,5]],kd [],Go.Proofs.Tryd.func101,by kernel_rfl,rfl,by kernel_rfl,by kernel_rfl⟩
theorem good_u8_DecodeRuneInString:Good Go.Proofs.Tryd.prog (tiOf Go.Proofs.Tryd.prog) f_u8_DecodeRuneInString n_u8_DecodeRuneInString:=
 ⟨Go.Proofs.Tryd.f102,_,kl [[0],[0,10],[2,3],[2,3]],kd [],Go.Proofs.Tryd.func102,by kernel_rfl,rfl,by kernel_rfl,by kernel_rfl⟩
theorem good_ref01_Norm:Good Go.Proofs.Tryd.prog (tiOf Go.Proofs.Tryd.prog) f_ref01_Norm n_ref01_Norm:=
 ⟨Go.Proofs.Tryd.f103,_,kl [[0],[0,3],[0,3,15],[0,3],[2]],kd [],Go.Proofs.Tryd.func103,by kernel_rfl,rfl,by kernel_rfl,by kernel_rfl⟩
theorem good_ref04_Rune:Good Go.Proofs.Tryd.prog (tiOf Go.Proofs.Tryd.prog) f_ref04_Rune n_ref04_Rune:=
 ⟨Go.Proofs.Tryd.f104,_,kl [[0,1],[0,1,16],[4,5],[0,1,6],[0,1,6,21],[4,5],[0,1,6,25],[4,5],[0,1,6,48],[7],[7,94],[4,5],[0,1,6,96],[8],[8,152],[4,5],[4,5]],kd [(9,([],[],[0,1,2,3,4,5,6,7,8,9,10,11,12,13,14,15,16])),(13,([],[],[0,1,2,3,4,5,6,7,8,9,10,11,12,13,14,15,16,17,18,19,20,21,22,23,24]))],Go.Proofs.Tryd.func104,by kernel_rfl,rfl,by kernel_rfl,by kernel_rfl⟩
theorem good_u8_decodeRuneInStringSlow:Good Go.Proofs.Tryd.prog (tiOf Go.Proofs.Tryd.prog) f_u8_decodeRuneInStringSlow n_u8_decodeRuneInStringSlow:=
 ⟨Go.Proofs.Tryd.f105,_,kl [[0],[0,4],[0,4,16],[2,3],[0,4,5],[0,4,5,6],[0,4,5,6,23],[0,7],[2,3],[0,4,5,6,8],[0,4,5,8,9],[0,5,8,9,45],[2,3],[0,5,8,9,10],[0,5,8,10,57],[2,3],[0,5,8,10,59],[2,3],[0,5,8,10,11],[0,5,8,10,11,75],[2,3],[0,5,10,11,77],[2,3],[5,10,11,12],[5,10,11,12,98],[2,3],[2,3]],kd [],Go.Proofs.Tryd.func105,by kernel_rfl,rfl,by kernel_rfl,by kernel_rfl⟩
theorem good_ref04_cont:Good Go.Proofs.Tryd.prog (tiOf Go.Proofs.Tryd.prog) f_ref04_cont n_ref04_cont:=
 ⟨Go.Proofs.Tryd.f106,_,kl [[0,1],[4]],kd [],Go.Proofs.Tryd.func106,by kernel_rfl,rfl,by kernel_rfl,by kernel_rfl⟩
theorem envOk:EnvOk Go.Proofs.Tryd.prog (tiOf Go.Proofs.Tryd.prog) E0:=
 envOk_of (l:=fnTab) (.cons good_law16_MergeAll <| .cons good_tree_Check <| .cons good_tree_Depth <| .cons good_tree_Weight <| .cons good_law00_Tree <| .cons good_tree_Nodes <| .cons good_law00_Light <| .cons good_law16_awake <| .cons good_merge_Apply <| .cons good_ref16_Apply <| .cons good_law00_SameTree <| .cons good_merge_Clean <| .cons good_ref16_Clean <| .cons good_ref05_Check <| .cons good_ref05_Same <| .cons good_merge_Merge <| .cons good_ref16_Merge <| .cons good_tree_Set <| .cons good_tree_Member <| .cons good_tree_Unset <| .cons good_tree_check <| .cons good_law00_Num <| .cons good_law00_Strings <| .cons good_law00_light <| .cons good_merge_fits <| .cons good_ref15_Fits <| .cons good_law00_SameNum <| .cons good_law00_SameStrings <| .cons good_slices_ContainsFunc_aT <| .cons good_merge_Clean_1 <| .cons good_ref05_walk <| .cons good_ref02_Same <| .cons good_ref05_Unset <| .cons good_ref05_Member <| .cons good_ref05_Set <| .cons good_tree_cut <| .cons good_slices_Index_string <| .cons good_slices_IndexFunc_string <| .cons good_tree_Set_1 <| .cons good_slices_Concat_string <| .cons good_slices_Concat_aT <| .cons good_tree_own <| .cons good_law00_Limbs <| .cons good_merge_few <| .cons good_ref05_Weight <| .cons good_ref05_Nodes <| .cons good_ref05_Depth <| .cons good_ref15_wide <| .cons good_law00_SameLimbs <| .cons good_slices_IndexFunc_aT <| .cons good_ref05_fields <| .cons good_ref02_Is <| .cons good_ref01_Cmp <| .cons good_num_Check <| .cons good_tree_text <| .cons good_tree_names <| .cons good_merge_few_1 <| .cons good_ref05_zero <| .cons good_ref02_Check <| .cons good_ref04_Valid <| .cons good_ref05_names <| .cons good_ref01_limb <| .cons good_nat_Trim <| .cons good_utf_Valid <| .cons good_ref01_Small <| .cons good_ref04_Runes <| .cons good_nat_Norm <| .cons good_nat_small <| .cons good_u8_DecodeRuneInString <| .cons good_ref01_Norm <| .cons good_ref04_Rune <| .cons good_u8_decodeRuneInStringSlow <| .cons good_ref04_cont <| .nil _ _) rfl extOk
theorem txOk:TxOk E0 gl0 tab0:=by
 intro f g h hg
 have hg:tx0 f=some g:=hg
 unfold tx0 at hg
 split at hg<;>first | contradiction | skip
 ·injection hg with hg;subst hg;exact⟨_,rfl,tells_insert _ _⟩
 ·injection hg with hg;subst hg;exact⟨_,rfl,tells_insert _ _⟩
 ·injection hg with hg;subst hg;exact⟨_,rfl,tells_grow _ _⟩
 ·injection hg with hg;subst hg;exact⟨_,rfl,tells_grow _ _⟩
end Go.Ev
