/- What the proof of the statement leans on (part 28). -/
import Derived.Lib.ConvBytes
import Derived.Lib.AtoiErrMem
import Derived.Laws.Runes
import Derived.Test.YtfegacfjgjaghaaGreatDoorQza

namespace Go.Lw
open Go.RowKit
section
variable {P:Program}{ρ:Env}{h:Heap}{dst:Option Nat}{ty:TypeId}{pos:String}{after:Array Edge}{guard:Option (Nat×Bool)}{X:List PanicEntry→Heap→Prop}
theorem OpP.sliceArrAll {t e:TypeId}{x:Operand}{b o m sz:Nat}(hu:P.underlying t=some (.array m e)) (hs:szOf P e=some sz) (hx:opd ρ x=some (.pointer (some ⟨b,o,none⟩))) :
 OpP P ⟨dst,.slice t x none none none,ty,pos,after,guard⟩ ρ h (.slice (partAddr (some ⟨b,o,none⟩) 0 sz m) (m-0) (m-0)):=by
 intro _ B a w hf _;simp[execOp,Instr.sliceAt,Instr.sliceBounds,Instr.sliceBound,run_underlying hu,hf.eval hx,run_sizeOf hs,partAddr,Instr.sureAddr];split<;>simp
end
end Go.Lw
namespace Go.Proofs.YtfegacfjgjaghaaGreatDoor
open Go Go.Lw
set_option maxRecDepth 20000
section
variable {h:Heap}{v w:Value}{O O':Nat→Prop}{names:List By}{l:List Tk}
def WordsAt (h:Heap):Prop:=Lw.rowAt h 1 0 (wordsC.map encT)
structure ComG (h:Heap):Prop where
 lx:LxG h
 words:WordsAt h
theorem ComG.ext0 {h h':Heap}(k:ComG h) (e:Ext0 h h'):ComG h':=⟨k.lx.ext0 e,e.rowAt (fun q=>q) k.words⟩
theorem call_all (hg:WordsAt h) (hv:SlR eBy h O v names) (hn:names.length≤1000) :
 CallsH Tryz.prog 27 #[v] h (Ret fun r h'=>SlR eBy h' (fun b=>b<h.size) r (sortP (names++wordsC))∧Ext0 h h'):=by
 refine CallsH.of Tryz.func27 rfl rfl ?_;refine xrd Tryz.func27 1 [0,2] rfl ?_;refine G.seq rfl ?_;refine G.draw (fun b=>Array.size h≤b) (fun i=>Nat.blt i 5) (sz:=5) (listed:= #[false,false,false,false,false]) Tryz.func27 H.mixed rfl rfl rfl ?_;refine xtq 0 1 (by kernel_rfl) rfl ?_;refine xtp 2 5 (by kernel_rfl) rfl (fun h' e=>OpP.sliceArrAll Tryz.underlying70 H.sz9 rfl  ) ?_;refine xto 1 7 (by kernel_rfl) rfl (OpX.call (vs:=[_]) Tryz.func50 rfl H.nm50 rfl (CallsH.toX (clone_calls hv (by omega)))) ?_;rintro v1 h1 ⟨ho1,e1⟩;refine⟨fun _=>e1.of,?_⟩;have z1:=e1.size;have hl10:wordsC.length=10:=rfl;refine xto 3 15 (by kernel_rfl) rfl (OpX.append Tryz.underlying22 H.el9 rfl rfl ho1 rfl (.inr ⟨_,_,rfl,e1.rowAt (fun q=>q) hg⟩) (fun u hu=>by obtain⟨x,_,rfl⟩:=List.mem_map.1 hu;rfl) (by simp only[maxLen];omega) (by omega) (by omega)) ?_;rintro v2 h2 ⟨ho2,hx2,_,hv2⟩;refine⟨fun _=>hx2.mono (fun y _ q=>by have:=(OwnH.lt ho1 q.symm).1;omega),?_⟩;have e2:Ext0 h h2:=Ext.own e1 ho1 (Nat.le_refl _) hx2
 have ho2':OwE encT h2 h.size 9 v2 (names++wordsC):=by
  show OwnH _ _ _ _ _ _ _
  rw[List.length_append,List.map_append];exact ho2
 have hne:names++wordsC≠[]:=fun q=>by have:=congrArg List.length q;rw[List.length_append,hl10] at this;simp at this
 have hnl:(names++wordsC).length≤1000000:=by rw[List.length_append,hl10];omega
 refine xtq 4 31 (by kernel_rfl) rfl ?_;refine RD.done (by kernel_rfl) ?_;refine xu [0,2,3] rfl ?_;refine xra Tryz.func27 1 rfl ?_;refine xo rfl (OpX.call (vs:=[_]) Tryz.func51 rfl H.nm51 rfl (CallsH.toX (sort_calls ho2' hne hnl))) ?_;rintro _ h3 ⟨rfl,ho3,x3⟩;have e3:Ext0 h h3:=Ext.own e2 ho2' (Nat.le_refl _) x3;have hne3:(names++wordsC).mergeSort leX≠[]:=fun q=>by have:=congrArg List.length q;rw[List.length_mergeSort] at this;exact hne (List.eq_nil_iff_length_eq_zero.2 this)
 refine xd [0,2,3] rfl ?_;refine xra Tryz.func27 1 rfl ?_;refine xo rfl (OpX.call (vs:=[_]) Tryz.func52 rfl H.nm52 rfl (CallsH.toX (compact_calls ho3 hne3 (by rw[List.length_mergeSort];exact hnl)))) ?_;rintro v4 h4 ⟨hs4,x4⟩;refine xqd 1 [0,2,3] rfl ?_;refine G.ret Tryz.func27 rfl rfl ?_;exact⟨_,rfl,hs4,Ext.own e3 ho3 (Nat.le_refl _) x4⟩
theorem sortP_len (l:List By):(sortP l).length≤l.length:=by
 unfold sortP;have:=Lib.compact_length_le (l.mergeSort fun x y=>decide (x≤y))
 rwa [List.length_mergeSort] at this
theorem Of_calls (hg:WordsAt h) (s:By) (hs:s.length≤1000000) (hv:SlR eTk h O v l) (hw:SlR eBy h O' w names) (hn:names.length≤1000) (a:Int) :
 CallsH Tryz.prog 14 #[.string (bs s),v,.int .i64 a,w] h (Ret fun r h'=>(∃lv,r= .tuple #[.int .i64 (ofC s l a names).1,lv]∧OwE encT h' h.size 9 lv (ofC s l a names).2)∧Ext0 h h'):=by
 have hz:=bs_size s;have hnc:=name_calls (h:=h) s hv a;obtain⟨⟨t,ok⟩,hN⟩:∃q,nameV s l a=q:=⟨_,rfl⟩
 rw[hN] at hnc;refine CallsH.of Tryz.func14 rfl rfl ?_;refine xrd Tryz.func14 2 [0,1,2,3,8,9] rfl ?_;refine xra Tryz.func14 3 rfl ?_;refine xo rfl (OpX.call (vs:=[_,_,_]) Tryz.func26 rfl H.nm26 rfl (CallsH.toX (hnc))) ?_;rintro _ h1 ⟨rfl,e1⟩;refine xqm 3 rfl ?_;refine xo rfl (OpX.allocN H.zr35) ?_;rintro _ h2 ⟨rfl,k2,e2,z2⟩;refine RW.op0 rfl rfl rfl (OpX.storeBlk H.sz35 rfl rfl k2 (by first|rfl|(simp;done)|(simp;omega)) (by first|decide|exact of_decide_eq_true rfl|(simp;done)|(simp;omega)) (tk_one _)) ?_;rintro _ h3 ⟨rfl,k3,x3,z3⟩;have e3:=e1.trans (Ext0.only e2 x3 (Nat.le_refl _));have z1:=e1.size;have k3:Blk h3 h1.size 35 (encTk t):=k3
 have hO:ofC s l a names=if ok=true then (t.2.1,listC (partC s t.2.1.toNat a.toNat) names) else (0,[]):=by
  unfold ofC;unfold nameV at hN;split at hN
  · rename_i q;rw[if_pos q,←(Prod.mk.inj hN).2];rfl
  · rename_i q;rw[if_neg q];split at hN
    · rename_i x hx;rw[hx,←(Prod.mk.inj hN).2,←(Prod.mk.inj hN).1];rfl
    · rename_i hx;rw[hx,←(Prod.mk.inj hN).2];rfl
 rw[hO];refine xqd 1 [0,1,2,3,8,9,10,11] rfl ?_;refine G.seq rfl ?_;refine xrd Tryz.func14 2 [0,1,2,3,8,9,10,11,22] rfl ?_;refine G.cond rfl rfl (fun hok=>?_) (fun hok=>?_)
 · have hok:ok=false:=by simpa using hok
   rw[hok,if_neg (by decide)];refine xrd Tryz.func14 2 [0,1,2,3,8,9,10,11,22] rfl ?_;refine G.ret Tryz.func14 rfl rfl ?_;exact⟨_,rfl,⟨_,rfl,OwE.nil _ _ _ _⟩,e3⟩
 · have hok:ok=true:=by simpa using hok
   rw[hok,if_pos rfl]
   have ht:0≤t.2.1∧t.2.1<a∧a≤s.length:=by
    unfold nameV at hN;split at hN
    · have:=(Prod.mk.inj hN).2;rw[hok] at this;cases this
    · rename_i q;split at hN
      · rename_i x hx;have hx2:nameT a s.length x=true:=List.find?_some hx;rw[(Prod.mk.inj hN).1] at hx2;have:=of_decide_eq_true hx2;omega
      · have:=(Prod.mk.inj hN).2;rw[hok] at this;cases this
   obtain⟨f,hf⟩:∃f:Nat,t.2.1=f:=⟨t.2.1.toNat,by omega⟩
   obtain⟨p,rfl⟩:∃p:Nat,a=p:=⟨a.toNat,by omega⟩
   have k3':Blk h3 h1.size 35 [.int .i64 t.1,.int .i64 (f:Nat),.int .i64 t.2.2]:=by rw[←hf];exact k3
   rw[hf,Int.toNat_natCast,Int.toNat_natCast];rw[hf] at ht;refine G.skip rfl ?_;refine G.seq rfl ?_;refine xra Tryz.func14 1 rfl ?_;refine xo rfl (OpX.call (vs:=[_]) Tryz.func27 rfl H.nm27 rfl (CallsH.toX (call_all (e3.rowAt (fun q=>q) hg) (hw.ext0 e3) hn))) ?_;rintro v4 h4 ⟨hs4,e4⟩;obtain⟨va,vn,vc,rfl,hvs⟩:=hs4.open;have hvn:(sortP (names++wordsC)).length=vn:=hvs.len;subst hvn;have hsl:=sortP_len (names++wordsC);rw[List.length_append,show wordsC.length=10 from rfl] at hsl;have k4:=k3'.ext0 e4;have e04:=e3.trans e4;have hps:(bs s).extract f p=bs (partC s f p):=bs_part s f p (by omega);refine xp rfl (OpP.lenSlice Tryz.underlying22 rfl) ?_;refine xqd 1 [0,1,2,3,8,9,10,11,22,24,25,26] rfl ?_;refine G.block rfl rfl ?_;refine G.loop (σ:=Nat×Value) (fun q=>[(0,.string (bs s)),(2,.int .i64 (p:Nat)),(9,q.2),(10,.pointer (some ⟨h1.size,0,none⟩)),(24,.slice va (sortP (names++wordsC)).length vc),(25,.int .i64 ((sortP (names++wordsC)).length:Nat)),(26,.int .i64 (q.1:Nat))]) (fun q h'=>q.1≤(sortP (names++wordsC)).length∧OwE encT h' h4.size 9 q.2 (((sortP (names++wordsC)).take q.1).filter (preB (partC s f p)))∧Ext0 h4 h') (fun q=>(sortP (names++wordsC)).length-q.1) ((0,.slice none 0 0)) rfl ⟨rfl,rfl,rfl,rfl,rfl,rfl,rfl,trivial⟩ ⟨Nat.zero_le _,OwE.nil _ _ _ _,Ext.refl _ _⟩ ?_;rintro⟨i,va2⟩ g ⟨hi,ho,eg⟩ ih
   try dsimp only
   dsimp only at hi ho;have zg:=eg.size;refine xrd Tryz.func14 1 [0,2,9,10,24,25,26,27] rfl ?_;refine G.seq rfl ?_;refine G.ite rfl rfl (fun hlt=>?_) (fun hlt=>?_)
   · have hlt':i<(sortP (names++wordsC)).length:=by omega
     obtain⟨b,o,x,ha,_,hx,hc⟩:=(hvs.mv (Mv.ext0 eg)).at hlt';have kg:=k4.ext0 eg;have hfl:(((sortP (names++wordsC)).take i).filter (preB (partC s f p))).length≤(sortP (names++wordsC)).length:=Nat.le_trans (List.length_filter_le _ _) (by rw[List.length_take];omega)
     have hfp:((sortP (names++wordsC)).take (i+1)).filter (preB (partC s f p))=((sortP (names++wordsC)).take i).filter (preB (partC s f p))++(if preB (partC s f p) x=true then [x] else []):=by
      rw[List.take_add_one,hx]
      by_cases hm:preB (partC s f p) x=true<;>simp[hm]
     refine G.skip rfl ?_;refine G.seq rfl ?_;refine G.block rfl rfl ?_;refine xr Tryz.func14 rfl ?_;refine xp rfl (OpP.indexSlice Tryz.underlying22 H.sz9 rfl rfl i rfl ha (by omega)) ?_;refine xp rfl (OpP.load H.ag9 rfl hc) ?_;refine xqd 1 [0,2,9,10,13,24,25,26,27] rfl ?_;refine xra Tryz.func14 2 rfl ?_;refine xp rfl (OpP.fieldAddr (off:=1) Tryz.underlying35 rfl rfl H.sz3 rfl) ?_;refine xp rfl (OpP.load H.ag3 rfl (kg.cell (i:=1) rfl)) ?_;refine xqp 1 rfl rfl (OpP.sliceStr Tryz.underlying9 rfl rfl f rfl rfl p rfl (by omega) (by omega)) ?_;rw[hps];refine xo rfl (OpX.call (vs:=[_,_]) Tryz.func28 rfl H.nm28 rfl (CallsH.toX (hp_calls x (partC s f p)))) ?_;rintro _ g ⟨rfl,rfl⟩;refine xd [0,2,9,10,13,24,25,26,27,36] rfl ?_;refine G.cond rfl rfl (fun hm=>?_) (fun hm=>?_)
     · rw[if_pos hm] at hfp;refine G.reg Tryz.func14 rfl ?_;refine xqm 2 rfl ?_;refine xo rfl (OpX.buildOnes (us:=[_]) Tryz.underlying22 H.el9 rfl rfl (by decide) (by simp[Value.oneCell'])) ?_;rintro _ _ ⟨rfl,rfl⟩;refine xo rfl (OpX.appendNew Tryz.underlying22 H.el9 rfl rfl (ho) rfl rfl (by first|decide|simp[Value.oneCell']) (Nat.le_trans (Nat.succ_le_succ hfl) (by omega)) (by decide) (by omega)) ?_;rintro v5 h5 ⟨ho5,hx5,hx5',hv5⟩;refine xqd 1 [0,2,9,10,13,24,25,26,27,36] rfl ?_;refine G.blkEnd ?_;refine G.reg Tryz.func14 rfl ?_;refine xp rfl (OpP.add64 rfl rfl ⟨by omega,by omega⟩) ?_;refine xqd 1 [0,2,9,10,13,24,25,26,27,36] rfl ?_
       have ho6:OwE encT h5 h4.size 9 v5 (((sortP (names++wordsC)).take (i+1)).filter (preB (partC s f p))):=by
        rw[hfp]
        show OwnH _ _ _ _ _ _ _
        rw[List.length_append,List.map_append];exact ho5
       exact ih (i+1,v5) _ _ ⟨rfl,rfl,rfl,rfl,rfl,rfl,rfl,trivial⟩ ⟨by show i+1≤_;omega,ho6,Ext.own eg ho (Nat.le_refl _) hx5⟩ (by show _-(i+1)<_-i;omega)
     · rw[if_neg (by rw[hm];decide),List.append_nil] at hfp;refine G.skip rfl ?_;refine G.blkEnd ?_;refine G.reg Tryz.func14 rfl ?_;refine xp rfl (OpP.add64 rfl rfl ⟨by omega,by omega⟩) ?_;refine xqd 1 [0,2,9,10,13,24,25,26,27,36] rfl ?_;exact ih (i+1,va2) _ _ ⟨rfl,rfl,rfl,rfl,rfl,rfl,rfl,trivial⟩ ⟨by show i+1≤_;omega,by rw[hfp];exact ho,eg⟩ (by show _-(i+1)<_-i;omega)
   · have hie:(sortP (names++wordsC)).take i=sortP (names++wordsC):=List.take_of_length_le (by omega);rw[hie] at ho;refine G.exit rfl rfl ?_;refine xr Tryz.func14 rfl ?_;refine xp rfl (OpP.fieldAddr (off:=1) Tryz.underlying35 rfl rfl H.sz3 rfl) ?_;refine xp rfl (OpP.load H.ag3 rfl ((k4.ext0 eg).cell (i:=1) rfl)) ?_;refine xqd 3 [0,2,8,9,10,24,25,26,27] rfl ?_;refine G.ret Tryz.func14 rfl rfl ?_;exact⟨_,rfl,⟨_,rfl,OwnH.lower ho e04.size⟩,e04.trans eg⟩
theorem lcp_at:∀(s t:By) (n:Nat),s.take n=t.take n→n≤s.length→n≤t.length→(n=s.length∨n=t.length∨s[n]? ≠t[n]?)→lcpP s t=s.take n
 | [], t, n, _, h1, _, _ => by have : n = 0 := by simpa using h1
                               subst this;rfl
 | a :: s, [], n, _, _, h2, _ => by have : n = 0 := by simpa using h2
                                    subst this;rfl
 |a::s,b::t,0,_,_,_,h3=>by
  rw[lcpP,if_neg,List.take_zero];intro e
  rcases h3 with h3|h3|h3
  · simp at h3
  · simp at h3
  · exact h3 (by simp[e])
 |a::s,b::t,n+1,h,h1,h2,h3=>by
  rw[List.take_succ_cons,List.take_succ_cons] at h;obtain⟨e,h⟩:=List.cons.inj h;rw[lcpP,if_pos e,List.take_succ_cons,lcp_at s t n h (by simpa using h1) (by simpa using h2) (by simpa using h3)]
theorem lcp_len (s t:By):(lcpP s t).length≤s.length:=((lcp_pre s t _).1 (List.prefix_refl _)).1.length_le
theorem Common_calls {xs:List By}(hv:SlR eBy h O v xs) (hl:∀x∈xs,x.length≤1000000) :
 CallsH Tryz.prog 10 #[v] h (Ret fun r h'=>r= .string (bs (comC xs))∧h'=h):=by
 obtain⟨va,vn,vc,rfl,hvs⟩:=hv.open;have hxl:xs.length=vn:=hvs.len;subst hxl;have hvm:=hvs.cap;have hvc:=hvs.le;simp only[maxLen] at hvm;refine CallsH.of Tryz.func10 rfl rfl ?_;refine xrd Tryz.func10 1 [0,2] rfl ?_;refine G.seq rfl ?_;refine xra Tryz.func10 1 rfl ?_;refine xp rfl (OpP.lenSlice Tryz.underlying22 rfl) ?_;refine xqd 1 [0,2,9] rfl ?_;refine G.ite rfl rfl (fun h0=>?_) (fun h0=>?_)
 · obtain rfl:xs=[]:=List.eq_nil_iff_length_eq_zero.2 (by omega);refine xrd Tryz.func10 1 [0,2,9] rfl ?_;refine G.ret Tryz.func10 rfl rfl ?_;exact⟨_,rfl,rfl,rfl⟩
 · have hpos:0<xs.length:=by omega
   obtain⟨b,o,x,ha,_,hx,hc⟩:=hvs.at hpos;have htl:=hvs.part (i:=1) (j:=xs.length) hpos (Nat.le_refl _)
   obtain⟨l,hxs⟩:∃l,xs=x::l:=by
    cases xs with
    |nil=>simp at hpos
    |cons y l=>cases hx;exact⟨l,rfl⟩
   have hdr:(xs.take xs.length).drop 1=l:=by rw[List.take_length,hxs];rfl
   rw[hdr] at htl;have hlen:xs.length-1=l.length:=by rw[hxs];simp
   have hll:∀y∈l,y.length≤1000000:=fun y hy=>hl y (by rw[hxs];simp[hy])
   have hxl:x.length≤1000000:=hl x (by rw[hxs];simp);have hco:comC xs=l.foldl lcpP x:=by rw[hxs];rfl
   rw[hco];refine G.skip rfl ?_;refine xra Tryz.func10 1 rfl ?_;refine xp rfl (OpP.indexSlice Tryz.underlying22 H.sz9 rfl rfl 0 rfl ha (by omega)) ?_;refine xp rfl (OpP.load H.ag9 rfl hc) ?_;refine xqd 1 [0,2,3,9] rfl ?_;refine G.seq rfl ?_;refine xra Tryz.func10 1 rfl ?_;refine xp rfl (OpP.sliceSliceLo Tryz.underlying22 H.sz9 rfl rfl 1 rfl (by omega)) ?_;refine xp rfl (OpP.lenSlice Tryz.underlying22 rfl) ?_;refine xqd 1 [0,2,3,9,14,15,16] rfl ?_;refine G.block rfl rfl ?_;refine G.loop (σ:=Nat×By) (fun q=>[(3,.string (bs q.2)),(14,.slice (partAddr va 1 eBy.sz vc) (xs.length-1) (vc-1)),(15,.int .i64 ((xs.length-1:Nat):Int)),(16,.int .i64 (q.1:Nat))]) (fun q h'=>h'=h∧q.1≤l.length∧(l.drop q.1).foldl lcpP q.2=l.foldl lcpP x∧q.2.length≤1000000) (fun q=>l.length-q.1) ((0,x)) rfl ⟨rfl,rfl,rfl,rfl,trivial⟩ ⟨rfl,Nat.zero_le _,rfl,hxl⟩ ?_;rintro⟨i,s⟩ g ⟨rfl,hi,hf,hsl⟩ ih
   try dsimp only
   dsimp only at hi hf hsl;have hzs:=bs_size s;refine xrd Tryz.func10 1 [3,14,15,16,17] rfl ?_;refine G.seq rfl ?_;refine G.ite rfl rfl (fun hlt=>?_) (fun hlt=>?_)
   · have hlt':i<l.length:=by omega
     obtain⟨b1,o1,t,ha1,_,ht,hc1⟩:=htl.at (show i<xs.length-1 by omega);have htl2:=hll t (List.mem_of_getElem? ht);have hzt:=bs_size t
     have hfd:(l.drop i).foldl lcpP s=(l.drop (i+1)).foldl lcpP (lcpP s t):=by
      obtain⟨hi',he⟩:=List.getElem?_eq_some_iff.1 ht;rw[List.drop_eq_getElem_cons hi',he,List.foldl_cons]
     rw[hfd] at hf;refine G.skip rfl ?_;refine G.seq rfl ?_;refine G.block rfl rfl ?_;refine xr Tryz.func10 rfl ?_;refine xp rfl (OpP.indexSlice Tryz.underlying22 H.sz9 rfl rfl i rfl ha1 (by omega)) ?_;refine xp rfl (OpP.load H.ag9 rfl hc1) ?_;refine xqd 1 [3,5,14,15,16,17] rfl ?_;refine xrd Tryz.func10 1 [3,5,6,14,15,16,17] rfl ?_;refine G.seq rfl ?_;refine G.block rfl rfl ?_;refine G.loop (σ:=Nat) (fun n=>[(3,.string (bs s)),(5,.string (bs t)),(6,.int .i64 (n:Nat)),(14,.slice (partAddr va 1 eBy.sz vc) (xs.length-1) (vc-1)),(15,.int .i64 ((xs.length-1:Nat):Int)),(16,.int .i64 (i:Nat))]) (fun n h'=>h'=g∧n≤s.length∧n≤t.length∧s.take n=t.take n) (fun n=>s.length-n) (0) rfl ⟨rfl,rfl,rfl,rfl,rfl,rfl,trivial⟩ ⟨rfl,Nat.zero_le _,Nat.zero_le _,rfl⟩ ?_;rintro n g' ⟨rfl,hn1,hn2,hst⟩ ih2;refine G.seq rfl ?_;refine G.seq rfl ?_;refine G.drawQTo1 [(35,.bool (decide (n<s.length∧n<t.length∧s[n]? =t[n]?)))] [(3,_),(5,_),(6,_),(14,_),(15,_),(16,_)] ⟨rfl,rfl,rfl,rfl,rfl,rfl,trivial⟩ Tryz.func10 H.mixed rfl (by kernel_rfl) ?_ ?_
     · refine RQ.pureS rfl rfl rfl rfl (OpP.move rfl) ?_;refine RQ.pureS rfl rfl rfl rfl (OpP.move rfl) ?_;refine RQ.pureS rfl rfl rfl rfl (OpP.lenString Tryz.underlying9 rfl) ?_;refine RQ.pureS rfl rfl rfl rfl (OpP.move rfl) ?_;refine RQ.pureS rfl rfl rfl rfl (OpP.lenString Tryz.underlying9 rfl) ?_;refine RQ.pureS rfl rfl rfl rfl (OpP.min2 rfl rfl) ?_;refine RQ.pureS rfl rfl rfl rfl (OpP.lss rfl rfl) ?_;refine RQ.pureS rfl rfl rfl rfl (OpP.move rfl) ?_;refine RQ.split (d:=27) rfl (fun c=>?_) (fun c=>?_)
       · have c:=of_decide_eq_true c;have hmn:n<s.length∧n<t.length:=by split at c<;>omega
         obtain⟨y,hy⟩:∃y,s[n]? =some y:=⟨_,List.getElem?_eq_getElem hmn.1⟩
         obtain⟨z,hz⟩:∃z,t[n]? =some z:=⟨_,List.getElem?_eq_getElem hmn.2⟩
         refine RQ.pureS rfl rfl rfl rfl (OpP.move rfl) ?_;refine RQ.pureS rfl rfl rfl rfl (OpP.move rfl) ?_;refine RQ.pureS rfl rfl rfl rfl (OpP.indexStr Tryz.underlying9 rfl rfl n rfl (bs_at hy)) ?_;refine RQ.pureS rfl rfl rfl rfl (OpP.move rfl) ?_;refine RQ.pureS rfl rfl rfl rfl (OpP.move rfl) ?_;refine RQ.pureS rfl rfl rfl rfl (OpP.indexStr Tryz.underlying9 rfl rfl n rfl (bs_at hz)) ?_;refine RQ.pureS rfl rfl rfl rfl (OpP.eqlInt rfl rfl) ?_;refine RQ.pureS rfl rfl rfl rfl (OpP.pickT rfl rfl) ?_;refine RQ.done rfl ?_;exact⟨rfl,at_bool rfl (by rw[decide_eq_decide,hy,hz];exact⟨fun q=>⟨hmn.1,hmn.2,congrArg some (UInt8.toNat_inj.1 (by omega))⟩,fun q=>by have q:=Option.some.inj q.2.2;rw[q]⟩),rfl,rfl,rfl,rfl,rfl,rfl,trivial⟩
       · have c:=of_decide_eq_false c;refine RQ.skipS rfl rfl rfl rfl ?_;refine RQ.skipS rfl rfl rfl rfl ?_;refine RQ.skipS rfl rfl rfl rfl ?_;refine RQ.skipS rfl rfl rfl rfl ?_;refine RQ.skipS rfl rfl rfl rfl ?_;refine RQ.skipS rfl rfl rfl rfl ?_;refine RQ.skipS rfl rfl rfl rfl ?_;refine RQ.pureS rfl rfl rfl rfl (OpP.pickF rfl rfl) ?_;refine RQ.done rfl ?_;exact⟨rfl,at_bool rfl (by rw[eq_comm,decide_eq_false];intro q;split at c<;>omega),rfl,rfl,rfl,rfl,rfl,rfl,trivial⟩
     · refine G.ite rfl rfl (fun hgo=>?_) (fun hgo=>?_)
       · have hst2:s.take (n+1)=t.take (n+1):=by rw[List.take_add_one,List.take_add_one,hst,hgo.2.2]
         refine G.skip rfl ?_;refine G.block rfl rfl ?_;refine G.reg Tryz.func10 rfl ?_;refine xqp 1 rfl rfl (OpP.add64 rfl rfl ⟨by omega,by omega⟩) ?_;refine xqd 1 [3,5,6,14,15,16,35] rfl ?_;refine G.blkEnd ?_;exact ih2 (n+1) _ _ ⟨rfl,rfl,rfl,rfl,rfl,rfl,trivial⟩ ⟨rfl,by omega,by omega,hst2⟩ (by omega)
       · have hlc:=lcp_at s t n hst hn1 hn2 (by
          by_cases q1:n=s.length
          · exact .inl q1
          · by_cases q2:n=t.length
            · exact .inr (.inl q2)
            · exact .inr (.inr fun q3=>hgo ⟨by omega,by omega,q3⟩))
         have hle:=lcp_len s t;refine G.exit rfl rfl ?_;refine G.reg Tryz.func10 rfl ?_;refine xqp 2 rfl rfl (OpP.sliceStrHi Tryz.underlying9 rfl rfl n rfl (by omega)) ?_;rw[bs_part s 0 n (Nat.zero_le _),List.drop_zero,←hlc];refine xqd 1 [3,5,6,14,15,16,35] rfl ?_;refine G.blkEnd ?_;refine G.reg Tryz.func10 rfl ?_;refine xp rfl (OpP.add64 rfl rfl ⟨by omega,by omega⟩) ?_;refine xqd 1 [3,5,6,14,15,16,35] rfl ?_;exact ih (i+1,lcpP s t) _ _ ⟨rfl,rfl,rfl,rfl,trivial⟩ ⟨rfl,by show i+1≤_;omega,hf,by show (lcpP s t).length≤1000000;omega⟩ (by show _-(i+1)<_-i;omega)
   · rw[List.drop_of_length_le (by omega),List.foldl_nil] at hf;rw[←hf];refine G.exit rfl rfl ?_;refine xrd Tryz.func10 2 [2,3,14,15,16,17] rfl ?_;refine G.ret Tryz.func10 rfl rfl ?_;exact⟨_,rfl,rfl,rfl⟩
theorem list_len (p:By) (names:List By) (hl:∀x∈names,x.length≤1000000):∀x∈listC p names,x.length≤1000000:=by
 intro x hx
 rcases ((list_mem p names x).1 hx).1 with q|q
 · exact hl x q
 · exact Nat.le_trans ((show ∀x∈wordsC,x.length≤10 by decide) x q) (by decide)
theorem of_len (s:By) (l:List Tk) (a:Int) (hl:∀x∈names,x.length≤1000000):∀x∈(ofC s l a names).2,x.length≤1000000:=by
 unfold ofC;split
 · intro x hx;cases hx
 · split
   · intro x hx;cases hx
   · exact list_len _ _ hl
theorem com_len {l:List By}{n:Nat}(hl:∀x∈l,x.length≤n):(comC l).length≤n:=by
 cases l with
 |nil=>exact Nat.zero_le _
 |cons x l =>
  have:=((com_pre (l:=x::l) (by simp) _).1 (List.prefix_refl _) x (by simp)).length_le;have:=hl x (by simp);omega
theorem Apply_calls (hg:WordsAt h) (s:By) (hs:s.length≤1000000) (hv:SlR eTk h O v l) (hw:SlR eBy h O' w names) (hn:names.length≤1000) (hl:∀x∈names,x.length≤1000000) (a:Int) :
 CallsH Tryz.prog 15 #[.string (bs s),v,.int .i64 a,w] h (Ret fun r h'=>r= .tuple #[.string (bs (applyC s l a names).1),.int .i64 (applyC s l a names).2]∧Ext0 h h'):=by
 have hz:=bs_size s;refine CallsH.of Tryz.func15 rfl rfl ?_;refine xrd Tryz.func15 2 [0,1,2,3,8,9] rfl ?_;refine xra Tryz.func15 4 rfl ?_;refine xo rfl (OpX.call (vs:=[_,_,_,_]) Tryz.func14 rfl H.nm14 rfl (CallsH.toX (Of_calls hg s hs hv hw hn a))) ?_;rintro _ h1 ⟨⟨lv,rfl,ho⟩,e1⟩;have hsl:SlR eBy h1 (fun _=>False) lv (ofC s l a names).2:=OwE.read (h1:=fun _=>rfl) ho (fun _ _ q=>q);obtain⟨la,ln,lc,rfl,hls⟩:=id hsl.open;have hln:(ofC s l a names).2.length=ln:=hls.len;subst hln;unfold applyC;refine xqd 5 [0,1,2,3,8,9,10,11] rfl ?_;refine G.seq rfl ?_;refine xra Tryz.func15 1 rfl ?_;refine xp rfl (OpP.lenSlice Tryz.underlying22 rfl) ?_;refine xqd 1 [0,1,2,3,8,9,10,11,23] rfl ?_;refine G.ite rfl rfl (fun h0=>?_) (fun h0=>?_)
 · rw[if_pos (List.eq_nil_iff_length_eq_zero.2 (by omega))];refine xrd Tryz.func15 4 [0,1,2,3,8,9,10,11,23] rfl ?_;refine G.ret Tryz.func15 rfl rfl ?_;exact⟨_,rfl,rfl,e1⟩
 · have hne:(ofC s l a names).2≠[]:=fun q=>h0 (by rw[q];rfl)
   rw[if_neg hne];obtain⟨p1,p2,p3,_⟩:=of_some hne;obtain⟨q1,q2,_⟩:=apply_doc hne;have hcl:=com_len (of_len s l a hl);obtain⟨li,hli⟩:∃li,li=(ofC s l a names).2:=⟨_,rfl⟩
   obtain⟨f,hf⟩:∃f,f=(ofC s l a names).1:=⟨_,rfl⟩
   rw[←hli] at q1 q2 hcl hsl ⊢;rw[←hf] at p1 p2 q1 q2 ⊢;have hzc:=bs_size (comC li);obtain⟨p,rfl⟩:∃p:Nat,a=p:=⟨a.toNat,by omega⟩
   refine G.skip rfl ?_;refine xra Tryz.func15 1 rfl ?_;refine xo rfl (OpX.call (vs:=[_]) Tryz.func10 rfl H.nm10 rfl (CallsH.toX (Common_calls hsl (by rw[hli];exact of_len s l p hl)))) ?_;rintro _ h1 ⟨rfl,rfl⟩;refine xqp 2 rfl rfl (OpP.sub64 rfl rfl ⟨by omega,by omega⟩) ?_;refine xp rfl (OpP.sliceStrLo Tryz.underlying9 rfl rfl ((p:Int)-f).toNat (by omega) (by omega)) ?_;rw[bs_drop];obtain⟨m,hm⟩:∃m,m=(comC li).drop ((p:Int)-f).toNat:=⟨_,rfl⟩
   rw[←hm] at q1 ⊢;have hzm:=bs_size m;have hml:m.length≤1000000:=by rw[hm,List.length_drop];omega
   refine xqd 1 [0,1,2,3,8,9,10,11,12,23] rfl ?_;refine G.seq rfl ?_;refine xra Tryz.func15 1 rfl ?_;refine xp rfl (OpP.lenString Tryz.underlying9 rfl) ?_;refine xqp 1 rfl rfl (OpP.lenString Tryz.underlying9 rfl) ?_;refine xp rfl (OpP.add64 rfl rfl ⟨by omega,by omega⟩) ?_;refine xqd 1 [0,1,2,3,8,9,10,11,12,23,37] rfl ?_;refine G.ite rfl rfl (fun hbig=>?_) (fun hbig=>?_)
   · rw[if_pos (by omega)];refine xrd Tryz.func15 4 [0,1,2,3,8,9,10,11,12,23,37] rfl ?_;refine G.ret Tryz.func15 rfl rfl ?_;exact⟨_,rfl,rfl,e1⟩
   · rw[if_neg (by omega)];have hp1:(bs s).extract 0 p=bs (s.take p):=by rw[bs_part s 0 p (Nat.zero_le _),List.drop_zero]
     have hp2:(bs s).extract p (bs s).size=bs (s.drop p):=bs_drop s p;have hz1:=bs_size (s.take p);have hz2:=bs_size (s.drop p);rw[List.length_take] at hz1;rw[List.length_drop] at hz2;refine G.skip rfl ?_;refine G.seq rfl ?_;refine G.draw (fun b=>Array.size h1≤b) (fun i=>Nat.blt i 15) (sz:=15) (listed:= #[false,false,false,false,false,false,false,false,false,false,false,false,false,false,false]) Tryz.func15 H.mixed rfl rfl rfl ?_;refine xtq 0 1 (by kernel_rfl) rfl ?_;refine xtq 1 3 (by kernel_rfl) rfl ?_;refine xtp 2 7 (by kernel_rfl) rfl (fun h' e=>OpP.sliceStrHi Tryz.underlying9 rfl rfl p rfl (by omega)) ?_;rw[hp1];refine xtq 3 15 (by kernel_rfl) rfl ?_;refine xtp 4 31 (by kernel_rfl) rfl (fun h' e=>OpP.addStr rfl rfl (by omega)) ?_;refine xtq 5 63 (by kernel_rfl) rfl ?_;refine xtq 6 127 (by kernel_rfl) rfl ?_;refine xtp 7 255 (by kernel_rfl) rfl (fun h' e=>OpP.sliceStrLo Tryz.underlying9 rfl rfl p rfl (by omega)) ?_;rw[hp2];refine xtp 8 511 (by kernel_rfl) rfl (fun h' e=>OpP.addStr rfl rfl (by rw[ByteArray.size_append];omega)) ?_;refine xtq 9 1023 (by kernel_rfl) rfl ?_;refine xtq 10 2047 (by kernel_rfl) rfl ?_;refine xtp 11 4095 (by kernel_rfl) rfl (fun h' e=>OpP.lenString Tryz.underlying9 rfl) ?_;refine xtp 12 8191 (by kernel_rfl) rfl (fun h' e=>OpP.add64 rfl rfl ⟨by omega,by omega⟩) ?_;refine xtq 13 16383 (by kernel_rfl) rfl ?_;refine xtq 14 32767 (by kernel_rfl) rfl ?_;refine RD.done (by kernel_rfl) ?_;refine xu [0,1,2,3,8,9,10,11,12,23,37] rfl ?_;refine G.ret Tryz.func15 rfl rfl ?_;exact⟨_,rfl,by rw[bs_append,bs_append,Int.toNat_natCast];rfl,e1⟩
def takLess (l:List By) (k:Nat) (s:By):Bool:=match l[k]? with|some x=>Op.bytesLess x s|none=>false
theorem tak_at:∀(l:List By) (s:By) (k:Nat),(∀x∈l.take k,ltT x s)→k≤l.length→takLess l k s=false→layP l s=if l[k]? =some s then l else l.take k++s::l.drop k
 | [], s, k, _, hk, _ => by have : k = 0 := by simpa using hk
                            subst this;rfl
 |x::l,s,0,_,_,h=>by
  have h:Op.bytesLess x s=false:=h;rw[layP,h];simp
 |x::l,s,k+1,h1,h2,h3=>by
  have hx:Op.bytesLess x s=true:=h1 x (by simp);rw[layP,if_pos hx,tak_at l s k (fun y hy=>h1 y (by simp[hy])) (by simpa using h2) (by simpa [takLess] using h3)];simp only[List.getElem?_cons_succ,List.take_succ_cons,List.drop_succ_cons];split<;>rfl
theorem tak_len (l:List By) (s:By):(layP l s).length≤l.length+1:=by
 induction l with
 |nil=>simp[layP]
 | cons x l ih => rw [layP]; split
                  · simp only[List.length_cons];omega
                  · split<;>simp only[List.length_cons]<;>omega
theorem takf_len (m:List By):∀l:List By,(m.foldl layP l).length≤l.length+m.length:=by
 induction m with
 |nil=>simp
 |cons s m ih=>intro l;rw[List.foldl_cons];have:=ih (layP l s);have:=tak_len l s;simp only[List.length_cons];omega
theorem tak_calls {l:List By}(hv:SlR eBy h (fun _=>False) v l) (hn:l.length≤100000) (s:By) :
 CallsH Tryz.prog 32 #[v,.string (bs s)] h (Ret fun r h'=>SlR eBy h' (fun _=>False) r (layP l s)∧Ext0 h h'):=by
 obtain⟨va,vn,vc,rfl,hvs⟩:=id hv.open;have hxl:l.length=vn:=hvs.len;subst hxl;have hvm:=hvs.cap;have hvc:=hvs.le;simp only[maxLen] at hvm;refine CallsH.of Tryz.func32 rfl rfl ?_;refine xrd Tryz.func32 1 [0,1,4] rfl ?_;refine xrd Tryz.func32 1 [0,1,4,5] rfl ?_;refine G.seq rfl ?_;refine G.block rfl rfl ?_;refine G.loop (σ:=Nat) (fun k=>[(0,.slice va l.length vc),(1,.string (bs s)),(5,.int .i64 (k:Nat))]) (fun k h'=>h'=h∧k≤l.length∧∀x∈l.take k,ltT x s) (fun k=>l.length-k) (0) rfl ⟨rfl,rfl,rfl,trivial⟩ ⟨rfl,Nat.zero_le _,fun x hx=>by simp at hx⟩ ?_;rintro k g ⟨rfl,hk,hlt⟩ ih;refine G.seq rfl ?_;refine G.seq rfl ?_;refine G.regTo1 [(17,.bool (takLess l k s))] [(0,_),(1,_),(5,_)] ⟨rfl,rfl,rfl,trivial⟩ Tryz.func32 rfl ?_ ?_
 · refine xqp 2 rfl rfl (OpP.lenSlice Tryz.underlying22 rfl) ?_;refine xqm 2 rfl ?_;refine RW.split (d:=10) rfl (fun c=>?_) (fun c=>?_)
   · have c:=of_decide_eq_true c;obtain⟨b,o,x,ha,_,hx,hc⟩:=hvs.at (show k<l.length by omega);refine xqp 2 rfl rfl (OpP.indexSlice Tryz.underlying22 H.sz9 rfl rfl k rfl ha (by omega)) ?_;refine xp rfl (OpP.load H.ag9 rfl hc) ?_;refine xqp 1 rfl rfl (OpP.lssStr rfl rfl) ?_;refine xqm 1 rfl ?_;refine RW.done rfl ?_;exact⟨rfl,at_bool rfl (by unfold takLess;rw[hx,bs_list,bs_list]),rfl,rfl,rfl,trivial⟩
   · have c:=of_decide_eq_false c;refine xqm 7 rfl ?_;refine RW.done rfl ?_;exact⟨rfl,at_bool rfl (by unfold takLess;rw[List.getElem?_eq_none (by omega)]),rfl,rfl,rfl,trivial⟩
 · refine G.cond rfl rfl (fun hgo=>?_) (fun hgo=>?_)
   · have hkl:k<l.length:=by
      rcases Nat.lt_or_ge k l.length with q|q
      · exact q
      · unfold takLess at hgo;rw[List.getElem?_eq_none q] at hgo;cases hgo
     obtain⟨x,hx⟩:∃x,l[k]? =some x:=⟨_,List.getElem?_eq_getElem hkl⟩
     have hxs:ltT x s:=by unfold takLess at hgo;rw[hx] at hgo;exact hgo
     refine G.skip rfl ?_;refine G.block rfl rfl ?_;refine G.reg Tryz.func32 rfl ?_;refine xqp 1 rfl rfl (OpP.add64 rfl rfl ⟨by omega,by omega⟩) ?_;refine xqd 1 [0,1,5,17] rfl ?_;refine G.blkEnd ?_
     exact ih (k+1) _ _ ⟨rfl,rfl,rfl,trivial⟩ ⟨rfl,by omega,fun y hy=>by
      rw[List.take_add_one,hx] at hy
      rcases List.mem_append.1 hy with q|q
      · exact hlt y q
      · have:y=x:=by simpa using q
        rw[this];exact hxs⟩ (by omega)
   · have hla:=tak_at l s k hlt hk hgo;refine G.exit rfl rfl ?_;refine G.seq rfl ?_;refine G.seq rfl ?_;refine G.regTo1 [(31,.bool (decide (l[k]? =some s)))] [(0,_),(1,_),(5,_),(17,_)] ⟨rfl,rfl,rfl,rfl,trivial⟩ Tryz.func32 rfl ?_ ?_
     · refine xqp 2 rfl rfl (OpP.lenSlice Tryz.underlying22 rfl) ?_;refine xqm 2 rfl ?_;refine RW.split (d:=24) rfl (fun c=>?_) (fun c=>?_)
       · have c:=of_decide_eq_true c;obtain⟨b,o,x,ha,_,hx,hc⟩:=hvs.at (show k<l.length by omega);refine xqp 2 rfl rfl (OpP.indexSlice Tryz.underlying22 H.sz9 rfl rfl k rfl ha (by omega)) ?_;refine xp rfl (OpP.load H.ag9 rfl hc) ?_;refine xqp 1 rfl rfl (OpP.eqlStr rfl rfl) ?_;refine xqm 1 rfl ?_;refine RW.done rfl ?_;exact⟨rfl,at_bool rfl (by rw[decide_eq_decide,hx];exact⟨fun q=>congrArg some (bs_inj q),fun q=>by rw[Option.some.inj q]⟩),rfl,rfl,rfl,rfl,trivial⟩
       · have c:=of_decide_eq_false c;refine xqm 7 rfl ?_;refine RW.done rfl ?_;exact⟨rfl,at_bool rfl (by rw[List.getElem?_eq_none (by omega)];rfl),rfl,rfl,rfl,rfl,trivial⟩
     · refine G.ite rfl rfl (fun heq=>?_) (fun heq=>?_)
       · rw[if_pos heq] at hla;rw[hla];refine xrd Tryz.func32 2 [0,1,4,5,17,31] rfl ?_;refine G.ret Tryz.func32 rfl rfl ?_;exact⟨_,rfl,hv,Ext.refl _ _⟩
       · rw[if_neg heq] at hla;rw[hla];have hslA:=hvs.part (i:=0) (j:=k) (Nat.zero_le _) hk;have hslB:=hvs.part (i:=k) (j:=l.length) hk (Nat.le_refl _);rw[List.drop_zero] at hslA;rw[List.take_length] at hslB;have hlA:((l.take k).map encT).length=k*1:=by rw[List.length_map,List.length_take];omega
         have hlB:((l.drop k).map encT).length=(l.length-k)*1:=by rw[List.length_map,List.length_drop];omega
         have hone:∀(m:List By),∀u∈m.map encT,u.oneCell'=true:=fun m u hu=>by obtain⟨x,_,rfl⟩:=List.mem_map.1 hu;rfl
         refine G.skip rfl ?_;refine G.seq rfl ?_;refine G.draw (fun b=>Array.size g≤b) (fun i=>Nat.blt i 12) (sz:=12) (listed:= #[false,false,false,false,false,false,false,false,false,false,false,false]) Tryz.func32 H.mixed rfl rfl rfl ?_;refine xtq 0 1 (by kernel_rfl) rfl ?_;refine xtq 1 3 (by kernel_rfl) rfl ?_;refine xtp 2 7 (by kernel_rfl) rfl (fun h' e=>OpP.sliceSliceHi Tryz.underlying22 H.sz9 rfl rfl k rfl (by omega)) ?_;refine xtq 4 23 (by kernel_rfl) rfl ?_;refine xtq 7 151 (by kernel_rfl) rfl ?_;refine xtq 8 407 (by kernel_rfl) rfl ?_;refine xtp 9 919 (by kernel_rfl) rfl (fun h' e=>OpP.sliceSliceLo Tryz.underlying22 H.sz9 rfl rfl k rfl (by omega)) ?_;refine RD.twoS 3 5 (li:= #[true,true,true,true,true,false,false,true,true,true,false,false]) (lj:= #[true,true,true,false,true,true,false,true,true,true,false,false]) rfl rfl (by kernel_rfl) rfl rfl rfl rfl rfl rfl (OpX.append Tryz.underlying22 H.el9 rfl rfl (OwE.nil encT g g.size 9) hlA hslA.row (hone _) (by simp only[maxLen,List.length_nil];omega) (by simp only[List.length_nil];omega) (by omega)) (OpX.buildOnes (us:=[_]) Tryz.underlying22 H.el9 rfl rfl (by decide) (by simp[Value.oneCell'])) (by kernel_rfl) (by kernel_rfl) ?_ ?_
         · rintro v1 w1 ⟨ho1,hx1,_,hv1⟩;refine⟨fun _=>hx1.mono (fun y _ q=>by cases q),?_⟩;have e1:Ext0 g w1:=ext_but_none hx1;have ho1:OwnH w1 g.size 9 1 v1 k ((l.take k).map encT):=by have:=ho1;simpa using this
           refine xto 5 959 (by kernel_rfl) rfl (OpX.buildOnes (us:=[_]) Tryz.underlying22 H.el9 rfl rfl (by decide) (by simp[Value.oneCell'])) ?_;rintro _ w2 ⟨rfl,hw2⟩;refine⟨fun _=>by rw[hw2];exact Ext.push _ _ _,?_⟩;have e2:Ext0 w1 w2:=by rw[hw2];exact Ext.push _ _ _
           have hrS:Lw.rowAt w2 w1.size 0 [encT s]:=by rw[hw2];exact row_made _ _ _
           have zz:=((e1.trans e2)).size;refine xto 6 1023 (by kernel_rfl) rfl (OpX.append Tryz.underlying22 H.el9 rfl rfl (OwnH.ext0' ho1 e2) rfl (.inr ⟨_,_,rfl,hrS⟩) (by simp[Value.oneCell']) (by simp only[maxLen];omega) (by omega) (by omega)) ?_;rintro v3 w3 ⟨ho3,hx3,_,hv3⟩;refine⟨fun _=>hx3.mono (fun y _ q=>by have:=(OwnH.lt (OwnH.ext0' ho1 e2) q.symm).1;omega),?_⟩;have e3:Ext0 g w3:=Ext.own (e1.trans e2) (OwnH.ext0' ho1 e2) (Nat.le_refl _) hx3;have z3:=e3.size;refine xto 10 2047 (by kernel_rfl) rfl (OpX.append Tryz.underlying22 H.el9 rfl rfl ho3 hlB (hslB.mv (Mv.ext0 e3)).row (hone _) (by simp only[maxLen];omega) (by omega) (by omega)) ?_;rintro v4 w4 ⟨ho4,hx4,_,hv4⟩;refine⟨fun _=>hx4.mono (fun y _ q=>by have:=(OwnH.lt ho3 q.symm).1;omega),?_⟩;refine xtq 11 4095 (by kernel_rfl) rfl ?_;refine RD.done (by kernel_rfl) ?_;refine xu [0,1,4,5,17,31] rfl ?_;refine G.ret Tryz.func32 rfl rfl ?_;have e4:Ext0 g w4:=Ext.own e3 ho3 (Nat.le_refl _) hx4
           have ho5:OwE encT w4 g.size 9 v4 (l.take k++s::l.drop k):=by
            show OwnH _ _ _ _ _ _ _
            have hle:(l.take k++s::l.drop k).length=k+1+(l.length-k):=by rw[List.length_append,List.length_cons,List.length_take,List.length_drop];omega
            rw[hle,List.map_append,List.map_cons,show (l.take k).map encT++encT s::(l.drop k).map encT=(l.take k).map encT++[encT s]++(l.drop k).map encT by simp];exact ho4
           exact⟨_,rfl,OwE.read (h1:=fun _=>rfl) ho5 (fun _ _ q=>q),e4⟩
         · rintro _ w1 ⟨rfl,hw1⟩;refine⟨fun _=>by rw[hw1];exact Ext.push _ _ _,?_⟩;have e1:Ext0 g w1:=by rw[hw1];exact Ext.push _ _ _
           have z1:=e1.size;have hrS:Lw.rowAt w1 g.size 0 [encT s]:=by rw[hw1];exact row_made _ _ _
           refine xto 3 959 (by kernel_rfl) rfl (OpX.append Tryz.underlying22 H.el9 rfl rfl (OwE.nil encT w1 g.size 9) hlA (hslA.mv (Mv.ext0 e1)).row (hone _) (by simp only[maxLen,List.length_nil];omega) (by simp only[List.length_nil];omega) (by omega)) ?_;rintro v1 w2 ⟨ho1,hx1,_,hv1⟩;refine⟨fun _=>hx1.mono (fun y _ q=>by cases q),?_⟩;have e2:Ext0 w1 w2:=ext_but_none hx1;have ho1:OwnH w2 g.size 9 1 v1 k ((l.take k).map encT):=by have:=ho1;simpa using this
           have zz:=((e1.trans e2)).size;refine xto 6 1023 (by kernel_rfl) rfl (OpX.append Tryz.underlying22 H.el9 rfl rfl ho1 rfl (.inr ⟨_,_,rfl,e2.rowAt (fun q=>q) hrS⟩) (by simp[Value.oneCell']) (by simp only[maxLen];omega) (by omega) (by omega)) ?_;rintro v3 w3 ⟨ho3,hx3,_,hv3⟩;refine⟨fun _=>hx3.mono (fun y _ q=>by have:=(OwnH.lt ho1 q.symm).1;omega),?_⟩;have e3:Ext0 g w3:=Ext.own (e1.trans e2) ho1 (Nat.le_refl _) hx3;have z3:=e3.size;refine xto 10 2047 (by kernel_rfl) rfl (OpX.append Tryz.underlying22 H.el9 rfl rfl ho3 hlB (hslB.mv (Mv.ext0 e3)).row (hone _) (by simp only[maxLen];omega) (by omega) (by omega)) ?_;rintro v4 w4 ⟨ho4,hx4,_,hv4⟩;refine⟨fun _=>hx4.mono (fun y _ q=>by have:=(OwnH.lt ho3 q.symm).1;omega),?_⟩;refine xtq 11 4095 (by kernel_rfl) rfl ?_;refine RD.done (by kernel_rfl) ?_;refine xu [0,1,4,5,17,31] rfl ?_;refine G.ret Tryz.func32 rfl rfl ?_;have e4:Ext0 g w4:=Ext.own e3 ho3 (Nat.le_refl _) hx4
           have ho5:OwE encT w4 g.size 9 v4 (l.take k++s::l.drop k):=by
            show OwnH _ _ _ _ _ _ _
            have hle:(l.take k++s::l.drop k).length=k+1+(l.length-k):=by rw[List.length_append,List.length_cons,List.length_take,List.length_drop];omega
            rw[hle,List.map_append,List.map_cons,show (l.take k).map encT++encT s::(l.drop k).map encT=(l.take k).map encT++[encT s]++(l.drop k).map encT by simp];exact ho4
           exact⟨_,rfl,OwE.read (h1:=fun _=>rfl) ho5 (fun _ _ q=>q),e4⟩
theorem words_are:∀k,k<10→wordP (wordsD.getD k [])=true:=by decide +kernel
theorem nameT_iff (a n:Int) (t:Tk):nameT a n t=true↔(t.1=3∨t.1=4)∧0≤t.2.1∧t.2.1<a∧a≤t.2.2∧t.2.2≤n:=by unfold nameT;exact decide_eq_true_iff
theorem filter_take {p:By→Bool}{l:List By}{i:Nat}{x:By}(h:l[i]? =some x):(l.take (i+1)).filter p=(l.take i).filter p++(if p x=true then [x] else []):=by
 rw[List.take_add_one,h]
 by_cases hm:p x=true<;>simp[hm]
theorem rOf_calls (s:By) (hs:s.length≤1000000) (hv:SlR eTk h O v l) (hw:SlR eBy h O' w names) (hn:names.length≤1000) (a:Int) :
 CallsH Tryz.prog 17 #[.string (bs s),v,.int .i64 a,w] h (Ret fun r h'=>(∃lv,r= .tuple #[.int .i64 (ofC s l a names).1,lv]∧SlR eBy h' (fun _=>False) lv (ofC s l a names).2)∧Ext0 h h'):=by
 have hz:=bs_size s;obtain⟨va,vn,vc,rfl,hvs⟩:=hv.open;have hxl:l.length=vn:=hvs.len;subst hxl;have hvm:=hvs.cap;have hvc:=hvs.le;simp only[maxLen] at hvm;obtain⟨wa,wn,wc,rfl,hws⟩:=hw.open;have hwl:names.length=wn:=hws.len;subst hwl;refine CallsH.of Tryz.func17 rfl rfl ?_;refine xrd Tryz.func17 2 [0,1,2,3,8,9] rfl ?_;refine G.seq rfl ?_;refine G.seq rfl ?_;refine G.regTo1 [(23,.bool (decide (a<0∨(s.length:Int)<a)))] [(0,_),(1,_),(2,_),(3,_),(8,_),(9,_)] ⟨rfl,rfl,rfl,rfl,rfl,rfl,trivial⟩ Tryz.func17 rfl ?_ ?_
 · refine xqm 3 rfl ?_;refine RW.split (d:=18) rfl (fun c=>?_) (fun c=>?_)
   · have c:=of_decide_eq_true c;refine xqm 5 rfl ?_;refine RW.done rfl ?_;exact⟨rfl,at_bool rfl (by rw[eq_comm,decide_eq_true];exact .inl c),rfl,rfl,rfl,rfl,rfl,rfl,trivial⟩
   · have c:=of_decide_eq_false c;refine xqp 2 rfl rfl (OpP.lenString Tryz.underlying9 rfl) ?_;refine xqm 2 rfl ?_;refine RW.done rfl ?_;exact⟨rfl,at_bool rfl (by rw[decide_eq_decide];omega),rfl,rfl,rfl,rfl,rfl,rfl,trivial⟩
 · refine G.ite rfl rfl (fun hb=>?_) (fun hb=>?_)
   · have hN:ofC s l a names=(0,[]):=if_pos hb;rw[hN];refine xrd Tryz.func17 2 [0,1,2,3,8,9,23] rfl ?_;refine G.ret Tryz.func17 rfl rfl ?_;exact⟨_,rfl,⟨_,rfl,SlR.nil _ _ _⟩,Ext.refl _ _⟩
   · have hN:ofC s l a names=match l.find? (nameT a s.length) with|none=>(0,[])|some t=>(t.2.1,listC (partC s t.2.1.toNat a.toNat) names):=if_neg hb
     rw[hN];refine G.skip rfl ?_;refine G.seq rfl ?_;refine xrd Tryz.func17 1 [0,1,2,3,8,9,10,23] rfl ?_;refine G.block rfl rfl ?_;refine G.loop (σ:=Nat) (fun i=>[(0,.string (bs s)),(1,.slice va l.length vc),(2,.int .i64 a),(3,.slice wa names.length wc),(10,.int .i64 (i:Nat))]) (fun i h'=>i≤l.length∧(l.drop i).find? (nameT a s.length)=l.find? (nameT a s.length)∧Ext0 h h') (fun i=>l.length-i) (0) rfl ⟨rfl,rfl,rfl,rfl,rfl,trivial⟩ ⟨Nat.zero_le _,rfl,Ext.refl _ _⟩ ?_;rintro i g ⟨hi,hf,eg⟩ ih;have zg:=eg.size;refine G.seq rfl ?_;refine xra Tryz.func17 2 rfl ?_;refine xp rfl (OpP.lenSlice Tryz.underlying25 rfl) ?_;refine xqd 1 [0,1,2,3,10,27] rfl ?_;refine G.ite rfl rfl (fun hlt=>?_) (fun hlt=>?_)
     · have hlt':i<l.length:=by omega
       obtain⟨b,o,x,ha,_,hx,hrow⟩:=(hvs.mv (Mv.ext0 eg)).recd hlt';rw[find_drop1 hx] at hf;refine G.skip rfl ?_;refine G.seq rfl ?_;refine G.block rfl rfl ?_;refine xra Tryz.func17 2 rfl ?_;refine xp rfl (OpP.indexSlice Tryz.underlying25 H.sz35 rfl rfl i rfl ha (by omega)) ?_;refine xp rfl (OpP.loadRowN H.ag35 H.sz35 rfl hrow (by first|rfl|(simp;done)|(simp;omega))) ?_;refine xo rfl (OpX.allocN H.zr35) ?_;rintro _ h3 ⟨rfl,k3,e3,z3⟩;refine RW.op0 rfl rfl rfl (OpX.storeBlk H.sz35 rfl rfl k3 (by first|rfl|(simp;done)|(simp;omega)) (by first|decide|exact of_decide_eq_true rfl|(simp;done)|(simp;omega)) (tk_one x)) ?_;rintro _ h4 ⟨rfl,k4,x4,z4⟩;have k4:Blk h4 g.size 35 (encTk x):=k4;have e34:=Ext0.only e3 x4 (Nat.le_refl _);refine xd [0,1,2,3,10,11,27] rfl ?_;refine G.seq rfl ?_;refine G.seq rfl ?_;refine G.regTo1 [(65,.bool (!nameT a s.length x))] [(0,_),(1,_),(2,_),(3,_),(10,_),(11,_),(27,_)] ⟨rfl,rfl,rfl,rfl,rfl,rfl,rfl,trivial⟩ Tryz.func17 rfl ?_ ?_
       · refine xp rfl (OpP.fieldAddr (off:=0) Tryz.underlying35 rfl rfl H.sz3 rfl) ?_;refine xp rfl (OpP.load H.ag3 rfl (k4.cell (i:=0) rfl)) ?_;refine xqm 2 rfl ?_;refine RW.split (d:=37) rfl (fun d3=>?_) (fun d3=>?_)
         · have d3:=of_decide_eq_true d3;refine xp rfl (OpP.fieldAddr (off:=0) Tryz.underlying35 rfl rfl H.sz3 rfl) ?_;refine xp rfl (OpP.load H.ag3 rfl (k4.cell (i:=0) rfl)) ?_;refine xqm 3 rfl ?_;refine RW.split (d:=42) rfl (fun d4=>?_) (fun d4=>?_)
           · have d4:=of_decide_eq_true d4;refine xqm 23 rfl ?_;refine RW.done rfl ?_;exact⟨rfl,at_bool rfl (by rw[show nameT a s.length x=false from by unfold nameT;rw[decide_eq_false];omega];rfl),rfl,rfl,rfl,rfl,rfl,rfl,rfl,trivial⟩
           · have d4:=of_decide_eq_false d4;refine xp rfl (OpP.fieldAddr (off:=1) Tryz.underlying35 rfl rfl H.sz3 rfl) ?_;refine xp rfl (OpP.load H.ag3 rfl (k4.cell (i:=1) rfl)) ?_;refine xqm 3 rfl ?_;refine RW.split (d:=47) rfl (fun c1=>?_) (fun c1=>?_)
             · have c1:=of_decide_eq_true c1;refine xqm 18 rfl ?_;refine RW.done rfl ?_;exact⟨rfl,at_bool rfl (by rw[show nameT a s.length x=false from by unfold nameT;rw[decide_eq_false];omega];rfl),rfl,rfl,rfl,rfl,rfl,rfl,rfl,trivial⟩
             · have c1:=of_decide_eq_false c1;refine xp rfl (OpP.fieldAddr (off:=1) Tryz.underlying35 rfl rfl H.sz3 rfl) ?_;refine xp rfl (OpP.load H.ag3 rfl (k4.cell (i:=1) rfl)) ?_;refine xqm 4 rfl ?_;refine RW.split (d:=53) rfl (fun c2=>?_) (fun c2=>?_)
               · have c2:=of_decide_eq_true c2;refine xqm 12 rfl ?_;refine RW.done rfl ?_;exact⟨rfl,at_bool rfl (by rw[show nameT a s.length x=false from by unfold nameT;rw[decide_eq_false];omega];rfl),rfl,rfl,rfl,rfl,rfl,rfl,rfl,trivial⟩
               · have c2:=of_decide_eq_false c2;refine xp rfl (OpP.fieldAddr (off:=2) Tryz.underlying35 rfl rfl H.sz3 rfl) ?_;refine xp rfl (OpP.load H.ag3 rfl (k4.cell (i:=2) rfl)) ?_;refine xqm 4 rfl ?_;refine RW.split (d:=59) rfl (fun c3=>?_) (fun c3=>?_)
                 · have c3:=of_decide_eq_true c3;refine xqm 6 rfl ?_;refine RW.done rfl ?_;exact⟨rfl,at_bool rfl (by rw[show nameT a s.length x=false from by unfold nameT;rw[decide_eq_false];omega];rfl),rfl,rfl,rfl,rfl,rfl,rfl,rfl,trivial⟩
                 · have c3:=of_decide_eq_false c3;refine xp rfl (OpP.fieldAddr (off:=2) Tryz.underlying35 rfl rfl H.sz3 rfl) ?_;refine xp rfl (OpP.load H.ag3 rfl (k4.cell (i:=2) rfl)) ?_;refine xqp 1 rfl rfl (OpP.lenString Tryz.underlying9 rfl) ?_;refine xqm 2 rfl ?_;refine RW.done rfl ?_;exact⟨rfl,at_bool rfl (by rw[Bool.eq_iff_iff,decide_eq_true_iff,Bool.not_eq_true',Bool.eq_false_iff,ne_eq,nameT_iff];omega),rfl,rfl,rfl,rfl,rfl,rfl,rfl,trivial⟩
         · have d3:=of_decide_eq_false d3;refine xqp 5 rfl rfl (OpP.fieldAddr (off:=1) Tryz.underlying35 rfl rfl H.sz3 rfl) ?_;refine xp rfl (OpP.load H.ag3 rfl (k4.cell (i:=1) rfl)) ?_;refine xqm 3 rfl ?_;refine RW.split (d:=47) rfl (fun c1=>?_) (fun c1=>?_)
           · have c1:=of_decide_eq_true c1;refine xqm 18 rfl ?_;refine RW.done rfl ?_;exact⟨rfl,at_bool rfl (by rw[show nameT a s.length x=false from by unfold nameT;rw[decide_eq_false];omega];rfl),rfl,rfl,rfl,rfl,rfl,rfl,rfl,trivial⟩
           · have c1:=of_decide_eq_false c1;refine xp rfl (OpP.fieldAddr (off:=1) Tryz.underlying35 rfl rfl H.sz3 rfl) ?_;refine xp rfl (OpP.load H.ag3 rfl (k4.cell (i:=1) rfl)) ?_;refine xqm 4 rfl ?_;refine RW.split (d:=53) rfl (fun c2=>?_) (fun c2=>?_)
             · have c2:=of_decide_eq_true c2;refine xqm 12 rfl ?_;refine RW.done rfl ?_;exact⟨rfl,at_bool rfl (by rw[show nameT a s.length x=false from by unfold nameT;rw[decide_eq_false];omega];rfl),rfl,rfl,rfl,rfl,rfl,rfl,rfl,trivial⟩
             · have c2:=of_decide_eq_false c2;refine xp rfl (OpP.fieldAddr (off:=2) Tryz.underlying35 rfl rfl H.sz3 rfl) ?_;refine xp rfl (OpP.load H.ag3 rfl (k4.cell (i:=2) rfl)) ?_;refine xqm 4 rfl ?_;refine RW.split (d:=59) rfl (fun c3=>?_) (fun c3=>?_)
               · have c3:=of_decide_eq_true c3;refine xqm 6 rfl ?_;refine RW.done rfl ?_;exact⟨rfl,at_bool rfl (by rw[show nameT a s.length x=false from by unfold nameT;rw[decide_eq_false];omega];rfl),rfl,rfl,rfl,rfl,rfl,rfl,rfl,trivial⟩
               · have c3:=of_decide_eq_false c3;refine xp rfl (OpP.fieldAddr (off:=2) Tryz.underlying35 rfl rfl H.sz3 rfl) ?_;refine xp rfl (OpP.load H.ag3 rfl (k4.cell (i:=2) rfl)) ?_;refine xqp 1 rfl rfl (OpP.lenString Tryz.underlying9 rfl) ?_;refine xqm 2 rfl ?_;refine RW.done rfl ?_;exact⟨rfl,at_bool rfl (by rw[Bool.eq_iff_iff,decide_eq_true_iff,Bool.not_eq_true',Bool.eq_false_iff,ne_eq,nameT_iff];omega),rfl,rfl,rfl,rfl,rfl,rfl,rfl,trivial⟩
       · refine G.cond rfl rfl (fun hm=>?_) (fun hm=>?_)
         · have hm:¬nameT a s.length x=true:=by simpa using hm
           rw[if_neg hm] at hf;refine G.exit rfl rfl ?_;refine G.reg Tryz.func17 rfl ?_;refine xqp 1 rfl rfl (OpP.add64 rfl rfl ⟨by omega,by omega⟩) ?_;refine xqd 1 [0,1,2,3,10,11,27,65] rfl ?_;exact ih (i+1) _ _ ⟨rfl,rfl,rfl,rfl,rfl,trivial⟩ ⟨by omega,hf,eg.trans e34⟩ (by omega)
         · have hm:nameT a s.length x=true:=by simpa using hm
           rw[if_pos hm] at hf;rw[←hf];have hnt:=(nameT_iff a s.length x).1 hm;obtain⟨f,hff⟩:∃f:Nat,x.2.1=f:=⟨x.2.1.toNat,by omega⟩
           obtain⟨p,rfl⟩:∃p:Nat,a=p:=⟨a.toNat,by omega⟩
           have k4':Blk h4 g.size 35 [.int .i64 x.1,.int .i64 (f:Nat),.int .i64 x.2.2]:=by rw[←hff];exact k4
           rw[hff] at hnt
           show G _ _ _ _ _ _ (Ret fun r h'=>(∃lv,r= .tuple #[.int .i64 x.2.1,lv]∧SlR eBy h' (fun _=>False) lv (listC (partC s x.2.1.toNat (p:Int).toNat) names))∧Ext0 h h')
           rw[hff,Int.toNat_natCast,Int.toNat_natCast];obtain⟨pr,hpr⟩:∃pr,pr=partC s f p:=⟨_,rfl⟩
           have hps:(bs s).extract f p=bs pr:=by rw[hpr];exact bs_part s f p (by omega)
           rw[←hpr];refine G.skip rfl ?_;refine xr Tryz.func17 rfl ?_;refine xp rfl (OpP.build (H.bd70_0_1_2_3_4_5_6_7_8_9 _ _ _ _ _ _ _ _ _ _) rfl) ?_;refine xo rfl (OpX.allocN H.zr70) ?_;rintro _ h5 ⟨rfl,k5,e5,z5⟩;refine RW.op0 rfl rfl rfl (OpX.storeBlk H.sz70 rfl rfl k5 (by first|rfl|(simp;done)|(simp;omega)) (by first|decide|exact of_decide_eq_true rfl|(simp;done)|(simp;omega)) (by first|decide|simp[Value.oneCell'])) ?_;rintro _ h6 ⟨rfl,k6,x6,z6⟩;have k6:Blk h6 h4.size 70 (wordsD.map encT):=k6;have e46:=Ext0.only e5 x6 (Nat.le_refl _);have k46:=k4'.ext0 e46;have e06:=(eg.trans e34).trans e46;refine xd [0,1,2,3,10,11,12,27,65] rfl ?_;refine xrd Tryz.func17 1 [0,1,2,3,10,11,12,13,27,65] rfl ?_;refine G.seq rfl ?_;refine xrd Tryz.func17 1 [0,1,2,3,10,11,12,13,14,27,65] rfl ?_;refine G.block rfl rfl ?_;refine G.loop (σ:=Nat×Value) (fun q=>[(0,.string (bs s)),(2,.int .i64 (p:Nat)),(3,.slice wa names.length wc),(11,.pointer (some ⟨g.size,0,none⟩)),(12,.pointer (some ⟨h4.size,0,none⟩)),(13,q.2),(14,.int .i64 (q.1:Nat))]) (fun q h'=>q.1≤10∧SlR eBy h' (fun _=>False) q.2 (((wordsD.take q.1).filter (preB pr)).foldl layP [])∧Ext0 h6 h') (fun q=>10-q.1) ((0,.slice none 0 0)) rfl ⟨rfl,rfl,rfl,rfl,rfl,rfl,rfl,trivial⟩ ⟨Nat.zero_le _,SlR.nil _ _ _,Ext.refl _ _⟩ ?_;rintro⟨j,va3⟩ g2 ⟨hj,ho,eg2⟩ ih2
           try dsimp only
           dsimp only at hj ho;have kw:=k6.ext0 eg2;have kt:=k46.ext0 eg2;refine G.seq rfl ?_;refine xrd Tryz.func17 2 [0,2,3,11,12,13,14,68] rfl ?_;refine G.ite rfl rfl (fun hlt2=>?_) (fun hlt2=>?_)
           · have hj10:j<10:=by omega
             have hwj:wordsD[j]? =some (wordsD.getD j []):=by rw[List.getD_eq_getElem?_getD,List.getElem?_eq_getElem (show j<wordsD.length from hj10)];rfl
             have hwm:(wordsD.map encT)[j]? =some (encT (wordsD.getD j [])):=by rw[List.getElem?_map,hwj];rfl
             have hft:=filter_take (p:=preB pr) hwj;obtain⟨wd,hwd⟩:∃wd,wd=wordsD.getD j []:=⟨_,rfl⟩
             have hww:=words_are j hj10;rw[←hwd] at hwm hft hww;have hfl:=takf_len ((wordsD.take j).filter (preB pr)) [];have hfl2:((wordsD.take j).filter (preB pr)).length≤10:=Nat.le_trans (List.length_filter_le _ _) (by rw[List.length_take];omega);simp only[List.length_nil] at hfl;refine G.skip rfl ?_;refine G.seq rfl ?_;refine G.block rfl rfl ?_;refine G.seq rfl ?_;refine G.drawToX (fun(u:Unit) (h':Heap)=>Ext0 g2 h') (fun(u:Unit)=>[(85,.bool (preB pr wd))]) [(0,_),(2,_),(3,_),(11,_),(12,_),(13,_),(14,_),(68,_)] ⟨rfl,rfl,rfl,rfl,rfl,rfl,rfl,rfl,trivial⟩ (fun b=>Array.size g2≤b) (fun i=>Nat.blt i 15) (sz:=15) (listed:= #[false,false,false,false,false,false,false,false,false,false,false,false,false,false,false]) Tryz.func17 H.mixed rfl rfl rfl ?_ ?_
             · refine xtq 0 1 (by kernel_rfl) rfl ?_;refine xtp 1 3 (by kernel_rfl) rfl (fun h' e=>OpP.indexArr Tryz.underlying70 H.sz9 rfl rfl j rfl hj10) ?_;refine xtp 2 7 (by kernel_rfl) rfl (fun h' e=>OpP.load H.ag9 rfl (e.old (by rw[Nat.mul_one,Nat.zero_add];exact kw.cell hwm))) ?_;refine xtq 3 15 (by kernel_rfl) rfl ?_;refine xtp 4 31 (by kernel_rfl) rfl (fun h' e=>OpP.fieldAddr (off:=1) Tryz.underlying35 rfl rfl H.sz3 rfl) ?_;refine xtp 5 63 (by kernel_rfl) rfl (fun h' e=>OpP.load H.ag3 rfl (e.old (kt.cell (i:=1) rfl))) ?_;refine xtq 6 127 (by kernel_rfl) rfl ?_;refine xtp 7 255 (by kernel_rfl) rfl (fun h' e=>OpP.sliceStr Tryz.underlying9 rfl rfl f rfl rfl p rfl (by omega) (by omega)) ?_;rw[hps];refine xto 8 511 (by kernel_rfl) rfl (OpX.call (vs:=[_,_]) Tryz.func20 rfl H.nm20 rfl (CallsH.toX (begins_calls wd pr))) ?_;rintro _ g2 ⟨rfl,rfl⟩;refine⟨fun _=>Ext.refl _ _,?_⟩;refine xtq 9 1023 (by kernel_rfl) rfl ?_;refine RD.split (d:=80) rfl (fun c=>?_) (fun c=>?_)
               · refine xtq 10 2047 (by kernel_rfl) rfl ?_;refine xtp 11 4095 (by kernel_rfl) rfl (fun h' e=>OpP.indexArr Tryz.underlying70 H.sz9 rfl rfl j rfl hj10) ?_;refine xtp 12 8191 (by kernel_rfl) rfl (fun h' e=>OpP.load H.ag9 rfl (e.old (by rw[Nat.mul_one,Nat.zero_add];exact kw.cell hwm))) ?_;refine xto 13 16383 (by kernel_rfl) rfl (OpX.call (vs:=[_]) Tryz.func31 rfl H.nm31 rfl (CallsH.toX (wordR_calls wd))) ?_;rintro _ g3 ⟨rfl,e3'⟩;refine⟨fun _=>e3'.of,?_⟩;refine xtq 14 32767 (by kernel_rfl) rfl ?_;refine RD.done (by kernel_rfl) ?_;exact⟨(),e3',at_bool rfl (by rw[hww,c]),rfl,rfl,rfl,rfl,rfl,rfl,rfl,rfl,trivial⟩
               · refine xtk 10 2047 (by kernel_rfl) rfl ?_;refine xtk 11 4095 (by kernel_rfl) rfl ?_;refine xtk 12 8191 (by kernel_rfl) rfl ?_;refine xtk 13 16383 (by kernel_rfl) rfl ?_;refine xtq 14 32767 (by kernel_rfl) rfl ?_;refine RD.done (by kernel_rfl) ?_;exact⟨(),Ext.refl _ _,at_bool rfl (by rw[c]),rfl,rfl,rfl,rfl,rfl,rfl,rfl,rfl,trivial⟩
             · rintro u g3 e3';refine G.cond rfl rfl (fun hpre=>?_) (fun hpre=>?_)
               · rw[if_pos hpre] at hft;refine G.reg Tryz.func17 rfl ?_;refine xqp 2 rfl rfl (OpP.indexArr Tryz.underlying70 H.sz9 rfl rfl j rfl hj10) ?_;refine xp rfl (OpP.load H.ag9 rfl (by rw[Nat.mul_one,Nat.zero_add];exact(kw.ext0 e3').cell hwm)) ?_;refine xo rfl (OpX.call (vs:=[_,_]) Tryz.func32 rfl H.nm32 rfl (CallsH.toX (tak_calls (ho.ext0 e3') (by omega) wd))) ?_;rintro v4 g4 ⟨ho4,e4⟩;refine xqd 1 [0,2,3,11,12,13,14,68,85] rfl ?_;refine G.blkEnd ?_;refine G.reg Tryz.func17 rfl ?_;refine xqp 1 rfl rfl (OpP.add64 rfl rfl ⟨by omega,by omega⟩) ?_;refine xqd 1 [0,2,3,11,12,13,14,68,85] rfl ?_;exact ih2 (j+1,v4) _ _ ⟨rfl,rfl,rfl,rfl,rfl,rfl,rfl,trivial⟩ ⟨by show j+1≤10;omega,by rw[hft,List.foldl_append];exact ho4,(eg2.trans e3').trans e4⟩ (by show 10-(j+1)<10-j;omega)
               · rw[if_neg (by rw[hpre];decide),List.append_nil] at hft;refine G.skip rfl ?_;refine G.blkEnd ?_;refine G.reg Tryz.func17 rfl ?_;refine xqp 1 rfl rfl (OpP.add64 rfl rfl ⟨by omega,by omega⟩) ?_;refine xqd 1 [0,2,3,11,12,13,14,68,85] rfl ?_;exact ih2 (j+1,va3) _ _ ⟨rfl,rfl,rfl,rfl,rfl,rfl,rfl,trivial⟩ ⟨by show j+1≤10;omega,by rw[hft];exact ho.ext0 e3',eg2.trans e3'⟩ (by show 10-(j+1)<10-j;omega)
           · have hw10:wordsD.take j=wordsD:=List.take_of_length_le (by show 10≤j;omega);rw[hw10] at ho;have hd:=list_doc pr names;obtain⟨W,hW⟩:∃W,W=(wordsD.filter (preB pr)):=⟨_,rfl⟩
             rw[←hW] at ho hd;have hWl:W.length≤10:=by rw[hW];exact List.length_filter_le _ _
             refine G.exit rfl rfl ?_;refine G.seq rfl ?_;refine xrd Tryz.func17 1 [0,2,3,11,12,13,14,15,68] rfl ?_;refine G.block rfl rfl ?_;refine G.loop (σ:=Nat×Value) (fun q=>[(0,.string (bs s)),(2,.int .i64 (p:Nat)),(3,.slice wa names.length wc),(11,.pointer (some ⟨g.size,0,none⟩)),(13,q.2),(15,.int .i64 (q.1:Nat))]) (fun q h'=>q.1≤names.length∧SlR eBy h' (fun _=>False) q.2 ((W++(names.take q.1).filter (preB pr)).foldl layP [])∧Ext0 h6 h') (fun q=>names.length-q.1) ((0,va3)) rfl ⟨rfl,rfl,rfl,rfl,rfl,rfl,trivial⟩ ⟨Nat.zero_le _,by simpa using ho,eg2⟩ ?_;rintro⟨m,va4⟩ g3 ⟨hm',ho3,eg3⟩ ih3
             try dsimp only
             dsimp only at hm' ho3;have kt3:=k46.ext0 eg3;refine G.seq rfl ?_;refine xra Tryz.func17 2 rfl ?_;refine xp rfl (OpP.lenSlice Tryz.underlying22 rfl) ?_;refine xqd 1 [0,2,3,11,13,15,94] rfl ?_;refine G.ite rfl rfl (fun hlt3=>?_) (fun hlt3=>?_)
             · have hlt3':m<names.length:=by omega
               have e0g3:=e06.trans eg3;obtain⟨b6,o6,x6',ha6,_,hx6,hc6⟩:=(hws.mv (Mv.ext0 e0g3)).at hlt3';have hft:=filter_take (p:=preB pr) hx6;have hfl:=takf_len (W++(names.take m).filter (preB pr)) [];have hfl2:((names.take m).filter (preB pr)).length≤names.length:=Nat.le_trans (List.length_filter_le _ _) (by rw[List.length_take];omega);rw[List.length_append] at hfl;simp only[List.length_nil] at hfl;refine G.skip rfl ?_;refine G.seq rfl ?_;refine G.block rfl rfl ?_;refine G.seq rfl ?_;refine G.draw (fun b=>Array.size g3≤b) (fun i=>Nat.blt i 10) (sz:=10) (listed:= #[false,false,false,false,false,false,false,false,false,false]) Tryz.func17 H.mixed rfl rfl rfl ?_;refine xtq 0 1 (by kernel_rfl) rfl ?_;refine xtq 1 3 (by kernel_rfl) rfl ?_;refine xtp 2 7 (by kernel_rfl) rfl (fun h' e=>OpP.indexSlice Tryz.underlying22 H.sz9 rfl rfl m rfl ha6 (by omega)) ?_;refine xtp 3 15 (by kernel_rfl) rfl (fun h' e=>OpP.load H.ag9 rfl (e.old hc6)) ?_;refine xtq 4 31 (by kernel_rfl) rfl ?_;refine xtp 5 63 (by kernel_rfl) rfl (fun h' e=>OpP.fieldAddr (off:=1) Tryz.underlying35 rfl rfl H.sz3 rfl) ?_;refine xtp 6 127 (by kernel_rfl) rfl (fun h' e=>OpP.load H.ag3 rfl (e.old (kt3.cell (i:=1) rfl))) ?_;refine xtq 7 255 (by kernel_rfl) rfl ?_;refine xtp 8 511 (by kernel_rfl) rfl (fun h' e=>OpP.sliceStr Tryz.underlying9 rfl rfl f rfl rfl p rfl (by omega) (by omega)) ?_;rw[hps];refine xto 9 1023 (by kernel_rfl) rfl (OpX.call (vs:=[_,_]) Tryz.func20 rfl H.nm20 rfl (CallsH.toX (begins_calls x6' pr))) ?_;rintro _ g3 ⟨rfl,rfl⟩;refine⟨fun _=>Ext.refl _ _,?_⟩;refine RD.done (by kernel_rfl) ?_;refine xu [0,2,3,11,13,15,94,106] rfl ?_;refine G.cond rfl rfl (fun hpre=>?_) (fun hpre=>?_)
               · rw[if_pos hpre] at hft;refine G.reg Tryz.func17 rfl ?_;refine xqp 3 rfl rfl (OpP.indexSlice Tryz.underlying22 H.sz9 rfl rfl m rfl ha6 (by omega)) ?_;refine xp rfl (OpP.load H.ag9 rfl hc6) ?_;refine xo rfl (OpX.call (vs:=[_,_]) Tryz.func32 rfl H.nm32 rfl (CallsH.toX (tak_calls ho3 (by omega) x6'))) ?_;rintro v4 g4 ⟨ho4,e4⟩;refine xqd 1 [0,2,3,11,13,15,94,106] rfl ?_;refine G.blkEnd ?_;refine G.reg Tryz.func17 rfl ?_;refine xqp 1 rfl rfl (OpP.add64 rfl rfl ⟨by omega,by omega⟩) ?_;refine xqd 1 [0,2,3,11,13,15,94,106] rfl ?_;exact ih3 (m+1,v4) _ _ ⟨rfl,rfl,rfl,rfl,rfl,rfl,trivial⟩ ⟨by show m+1≤_;omega,by rw[hft,←List.append_assoc,List.foldl_append];exact ho4,eg3.trans e4⟩ (by show _-(m+1)<_-m;omega)
               · rw[if_neg (by rw[hpre];decide),List.append_nil] at hft;refine G.skip rfl ?_;refine G.blkEnd ?_;refine G.reg Tryz.func17 rfl ?_;refine xqp 1 rfl rfl (OpP.add64 rfl rfl ⟨by omega,by omega⟩) ?_;refine xqd 1 [0,2,3,11,13,15,94,106] rfl ?_;exact ih3 (m+1,va4) _ _ ⟨rfl,rfl,rfl,rfl,rfl,rfl,trivial⟩ ⟨by show m+1≤_;omega,by rw[hft];exact ho3,eg3⟩ (by show _-(m+1)<_-m;omega)
             · have hmn:names.take m=names:=List.take_of_length_le (by omega);rw[hmn,hd] at ho3;refine G.exit rfl rfl ?_;refine xr Tryz.func17 rfl ?_;refine xp rfl (OpP.fieldAddr (off:=1) Tryz.underlying35 rfl rfl H.sz3 rfl) ?_;refine xp rfl (OpP.load H.ag3 rfl (kt3.cell (i:=1) rfl)) ?_;refine xqd 3 [0,2,3,8,9,11,13,15,94] rfl ?_;refine G.ret Tryz.func17 rfl rfl ?_;exact⟨_,rfl,⟨_,rfl,ho3⟩,e06.trans eg3⟩
     · rw[List.drop_of_length_le (by omega),List.find?_nil] at hf;rw[←hf];refine G.exit rfl rfl ?_;refine xrd Tryz.func17 2 [0,1,2,3,8,9,10,27] rfl ?_;refine G.ret Tryz.func17 rfl rfl ?_;exact⟨_,rfl,⟨_,rfl,SlR.nil _ _ _⟩,eg⟩
theorem rCommon_calls {xs:List By}(hv:SlR eBy h O v xs) (hl:∀x∈xs,x.length≤1000000) :
 CallsH Tryz.prog 11 #[v] h (Ret fun r h'=>r= .string (bs (comC xs))∧h'=h):=by
 obtain⟨va,vn,vc,rfl,hvs⟩:=hv.open;have hxl:xs.length=vn:=hvs.len;subst hxl;have hvm:=hvs.cap;have hvc:=hvs.le;simp only[maxLen] at hvm;refine CallsH.of Tryz.func11 rfl rfl ?_;refine xrd Tryz.func11 1 [0,2] rfl ?_;refine G.seq rfl ?_;refine xra Tryz.func11 1 rfl ?_;refine xp rfl (OpP.lenSlice Tryz.underlying22 rfl) ?_;refine xqd 1 [0,2,8] rfl ?_;refine G.ite rfl rfl (fun h0=>?_) (fun h0=>?_)
 · obtain rfl:xs=[]:=List.eq_nil_iff_length_eq_zero.2 (by omega);refine xrd Tryz.func11 1 [0,2,8] rfl ?_;refine G.ret Tryz.func11 rfl rfl ?_;exact⟨_,rfl,rfl,rfl⟩
 · have hpos:0<xs.length:=by omega
   obtain⟨b,o,x,ha,_,hx,hc⟩:=hvs.at hpos
   obtain⟨l,hxs⟩:∃l,xs=x::l:=by
    cases xs with
    |nil=>simp at hpos
    |cons y l=>cases hx;exact⟨l,rfl⟩
   have hxl:x.length≤1000000:=hl x (by rw[hxs];simp);have hzx:=bs_size x
   have hct:∀n,n≤x.length→(∀y∈xs,x.take n <+: y)→(∀m,n<m→m≤x.length→¬∀y∈xs,x.take m <+: y)→comC xs=x.take n:=fun n h1 h2 h3=>by
    rw[hxs] at h2 h3 ⊢;exact com_take h1 h2 h3
   refine G.skip rfl ?_;refine xra Tryz.func11 1 rfl ?_;refine xp rfl (OpP.indexSlice Tryz.underlying22 H.sz9 rfl rfl 0 rfl ha (by omega)) ?_;refine xp rfl (OpP.load H.ag9 rfl hc) ?_;refine xp rfl (OpP.lenString Tryz.underlying9 rfl) ?_;refine xqd 1 [0,2,3,8] rfl ?_;refine G.seq rfl ?_;refine G.block rfl rfl ?_;rw[hzx];refine G.loop (σ:=Nat) (fun n=>[(0,.slice va xs.length vc),(3,.int .i64 (n:Nat))]) (fun n h'=>h'=h∧n≤x.length∧∀m,n<m→m≤x.length→¬∀y∈xs,x.take m <+: y) (fun n=>n) (x.length) rfl ⟨rfl,rfl,trivial⟩ ⟨rfl,Nat.le_refl _,fun m h1 h2=>by omega⟩ ?_;rintro n g ⟨rfl,hn,hmax⟩ ih;refine G.seq rfl ?_;refine xrd Tryz.func11 2 [0,3,14] rfl ?_;refine G.ite rfl rfl (fun hgo=>?_) (fun hgo=>?_)
   · have hn0:0<n:=by omega
     refine G.skip rfl ?_;refine G.block rfl rfl ?_;refine xrd Tryz.func11 1 [0,3,4,14] rfl ?_;refine G.seq rfl ?_;refine xrd Tryz.func11 1 [0,3,4,5,14] rfl ?_;refine G.block rfl rfl ?_;refine G.loop (σ:=Nat×Bool) (fun q=>[(0,.slice va xs.length vc),(3,.int .i64 (n:Nat)),(4,.bool q.2),(5,.int .i64 (q.1:Nat))]) (fun q h'=>h'=g∧q.1≤xs.length∧q.2=(xs.take q.1).all (preB (x.take n))) (fun q=>xs.length-q.1) ((0,true)) rfl ⟨rfl,rfl,rfl,rfl,trivial⟩ ⟨rfl,Nat.zero_le _,rfl⟩ ?_;rintro⟨i,ok⟩ g2 ⟨rfl,hi,hok⟩ ih2
     try dsimp only
     dsimp only at hi hok;refine G.seq rfl ?_;refine xra Tryz.func11 2 rfl ?_;refine xp rfl (OpP.lenSlice Tryz.underlying22 rfl) ?_;refine xqd 1 [0,3,4,5,18] rfl ?_;refine G.ite rfl rfl (fun hlt=>?_) (fun hlt=>?_)
     · have hlt':i<xs.length:=by omega
       obtain⟨b1,o1,y,ha1,_,hy,hc1⟩:=hvs.at hlt'
       have hta:((xs.take (i+1)).all (preB (x.take n)))=(ok && preB (x.take n) y):=by
        rw[List.take_add_one,hy,List.all_append,←hok];simp
       refine G.skip rfl ?_;refine G.seq rfl ?_;refine G.block rfl rfl ?_;refine G.drawTo1 [(4,.bool ((xs.take (i+1)).all (preB (x.take n))))] [(0,_),(3,_),(5,_),(18,_)] ⟨rfl,rfl,rfl,rfl,trivial⟩ (fun b=>Array.size g2≤b) (fun i=>Nat.blt i 14) (sz:=14) (listed:= #[false,false,false,false,false,false,false,false,false,false,false,false,false,false]) Tryz.func11 H.mixed rfl rfl rfl ?_ ?_
       · refine xtq 0 1 (by kernel_rfl) rfl ?_;refine xtq 1 3 (by kernel_rfl) rfl ?_;refine RD.split (d:=22) rfl (fun c=>?_) (fun c=>?_)
         · refine xtq 2 7 (by kernel_rfl) rfl ?_;refine xtq 3 15 (by kernel_rfl) rfl ?_;refine xtp 4 31 (by kernel_rfl) rfl (fun h' e=>OpP.indexSlice Tryz.underlying22 H.sz9 rfl rfl i rfl ha1 (by omega)) ?_;refine xtp 5 63 (by kernel_rfl) rfl (fun h' e=>OpP.load H.ag9 rfl (e.old hc1)) ?_;refine xtq 6 127 (by kernel_rfl) rfl ?_;refine xtp 7 255 (by kernel_rfl) rfl (fun h' e=>OpP.indexSlice Tryz.underlying22 H.sz9 rfl rfl 0 rfl ha (by omega)) ?_;refine xtp 8 511 (by kernel_rfl) rfl (fun h' e=>OpP.load H.ag9 rfl (e.old hc)) ?_;refine xtq 9 1023 (by kernel_rfl) rfl ?_;refine xtp 10 2047 (by kernel_rfl) rfl (fun h' e=>OpP.sliceStrHi Tryz.underlying9 rfl rfl n rfl (by omega)) ?_;rw[bs_part x 0 n (Nat.zero_le _),List.drop_zero];refine xto 11 4095 (by kernel_rfl) rfl (OpX.call (vs:=[_,_]) Tryz.func20 rfl H.nm20 rfl (CallsH.toX (begins_calls y (x.take n)))) ?_;rintro _ g2 ⟨rfl,rfl⟩;refine⟨fun _=>Ext.refl _ _,?_⟩;refine xtq 12 8191 (by kernel_rfl) rfl ?_;refine xtq 13 16383 (by kernel_rfl) rfl ?_;refine RD.done (by kernel_rfl) ?_;exact⟨rfl,at_bool rfl (by rw[hta,c,Bool.true_and]),rfl,rfl,rfl,rfl,trivial⟩
         · refine xtk 2 7 (by kernel_rfl) rfl ?_;refine xtk 3 15 (by kernel_rfl) rfl ?_;refine xtk 4 31 (by kernel_rfl) rfl ?_;refine xtk 5 63 (by kernel_rfl) rfl ?_;refine xtk 6 127 (by kernel_rfl) rfl ?_;refine xtk 7 255 (by kernel_rfl) rfl ?_;refine xtk 8 511 (by kernel_rfl) rfl ?_;refine xtk 9 1023 (by kernel_rfl) rfl ?_;refine xtk 10 2047 (by kernel_rfl) rfl ?_;refine xtk 11 4095 (by kernel_rfl) rfl ?_;refine xtq 12 8191 (by kernel_rfl) rfl ?_;refine xtq 13 16383 (by kernel_rfl) rfl ?_;refine RD.done (by kernel_rfl) ?_;exact⟨rfl,at_bool rfl (by rw[hta,c,Bool.false_and]),rfl,rfl,rfl,rfl,trivial⟩
       · refine G.blkEnd ?_;refine G.reg Tryz.func11 rfl ?_;refine xqp 1 rfl rfl (OpP.add64 rfl rfl ⟨by omega,by omega⟩) ?_;refine xqd 1 [0,3,4,5,18] rfl ?_;exact ih2 (i+1,_) _ _ ⟨rfl,rfl,rfl,rfl,trivial⟩ ⟨rfl,by show i+1≤_;omega,rfl⟩ (by show _-(i+1)<_-i;omega)
     · have hie:xs.take i=xs:=List.take_of_length_le (by omega);rw[hie] at hok;refine G.exit rfl rfl ?_;refine G.seq rfl ?_;refine xrd Tryz.func11 1 [0,3,4,5,18,34] rfl ?_;refine G.cond rfl rfl (fun hyes=>?_) (fun hyes=>?_)
       · rw[hyes] at hok;have hall:∀y∈xs,x.take n <+: y:=fun y hy=>preB_iff.1 (List.all_eq_true.1 hok.symm y hy)
         have hco:=hct n hn hall hmax;refine G.exit rfl rfl ?_;refine xra Tryz.func11 1 rfl ?_;refine xp rfl (OpP.indexSlice Tryz.underlying22 H.sz9 rfl rfl 0 rfl ha (by omega)) ?_;refine xp rfl (OpP.load H.ag9 rfl hc) ?_;refine xqp 1 rfl rfl (OpP.sliceStrHi Tryz.underlying9 rfl rfl n rfl (by omega)) ?_;rw[bs_part x 0 n (Nat.zero_le _),List.drop_zero,←hco];refine xqd 1 [0,2,3,4,5,18,34] rfl ?_;refine G.ret Tryz.func11 rfl rfl ?_;exact⟨_,rfl,rfl,rfl⟩
       · rw[hyes] at hok
         have hnot:¬∀y∈xs,x.take n <+: y:=fun q=>by
          have:(xs.all (preB (x.take n)))=true:=List.all_eq_true.2 fun y hy=>preB_iff.2 (q y hy)
          rw[this] at hok;cases hok
         refine G.skip rfl ?_;refine G.reg Tryz.func11 rfl ?_;refine xqp 1 rfl rfl (OpP.sub64 rfl rfl ⟨by omega,by omega⟩) ?_;refine xqd 1 [0,3,4,5,18,34] rfl ?_;refine G.blkEnd ?_;rw[show (n:Int)-1=((n-1:Nat):Int) by omega]
         exact ih (n-1) _ _ ⟨rfl,rfl,trivial⟩ ⟨rfl,by omega,fun m h1 h2=>by
          rcases Nat.lt_or_ge n m with q|q
          · exact hmax m q h2
          · obtain rfl:m=n:=by omega
            exact hnot⟩ (by omega)
   · obtain rfl:n=0:=by omega
     have hco:=hct 0 hn (fun y _=>by rw[List.take_zero];exact List.nil_prefix) hmax;refine G.exit rfl rfl ?_;refine xra Tryz.func11 1 rfl ?_;refine xp rfl (OpP.indexSlice Tryz.underlying22 H.sz9 rfl rfl 0 rfl ha (by omega)) ?_;refine xp rfl (OpP.load H.ag9 rfl hc) ?_;refine xqp 1 rfl rfl (OpP.sliceStrHi Tryz.underlying9 rfl rfl 0 rfl (by omega)) ?_;rw[bs_part x 0 0 (Nat.zero_le _),List.drop_zero,←hco];refine xqd 1 [0,2,3,14] rfl ?_;refine G.ret Tryz.func11 rfl rfl ?_;exact⟨_,rfl,rfl,rfl⟩
theorem rApply_calls (s:By) (hs:s.length≤1000000) (hv:SlR eTk h O v l) (hw:SlR eBy h O' w names) (hn:names.length≤1000) (hl:∀x∈names,x.length≤1000000) (a:Int) :
 CallsH Tryz.prog 18 #[.string (bs s),v,.int .i64 a,w] h (Ret fun r h'=>r= .tuple #[.string (bs (applyC s l a names).1),.int .i64 (applyC s l a names).2]∧Ext0 h h'):=by
 have hz:=bs_size s;refine CallsH.of Tryz.func18 rfl rfl ?_;refine xrd Tryz.func18 2 [0,1,2,3,8,9] rfl ?_;refine xra Tryz.func18 4 rfl ?_;refine xo rfl (OpX.call (vs:=[_,_,_,_]) Tryz.func17 rfl H.nm17 rfl (CallsH.toX (rOf_calls s hs hv hw hn a))) ?_;rintro _ h1 ⟨⟨lv,rfl,hsl⟩,e1⟩;obtain⟨la,ln,lc,rfl,hls⟩:=id hsl.open;have hln:(ofC s l a names).2.length=ln:=hls.len;subst hln;unfold applyC;have hcl:=com_len (of_len s l a hl)
 have hfb:0≤(ofC s l a names).1∨(ofC s l a names).2=[]:=by
  by_cases q:(ofC s l a names).2=[]
  · exact .inr q
  · exact .inl (of_some q).1
 have hfr:(ofC s l a names).2=[]∨((ofC s l a names).2≠[]∧0≤(ofC s l a names).1∧(ofC s l a names).1<a∧a≤s.length):=by
  by_cases q:(ofC s l a names).2=[]
  · exact .inl q
  · exact .inr ⟨q,(of_some q).1,(of_some q).2.1,(of_some q).2.2.1⟩
 have hapd:=fun q=>apply_doc (s:=s) (l:=l) (a:=a) (names:=names) q
 obtain⟨li,hli⟩:∃li,li=(ofC s l a names).2:=⟨_,rfl⟩
 obtain⟨f,hf⟩:∃f,f=(ofC s l a names).1:=⟨_,rfl⟩
 have hll:∀x∈li,x.length≤1000000:=by rw[hli];exact of_len s l a hl
 rw[←hli] at hcl hfb hfr hsl hapd ⊢;rw[←hf] at hfb hfr hapd ⊢;have hzc:=bs_size (comC li);refine xqd 5 [0,1,2,3,8,9,10,11] rfl ?_;refine xra Tryz.func18 1 rfl ?_;refine xo rfl (OpX.call (vs:=[_]) Tryz.func11 rfl H.nm11 rfl (CallsH.toX (rCommon_calls hsl hll))) ?_;rintro _ h1 ⟨rfl,rfl⟩;refine xqd 1 [0,1,2,3,8,9,10,11,12] rfl ?_;refine G.seq rfl ?_;refine G.seq rfl ?_;refine G.regTo1 [(37,.bool (decide (li=[]∨16384<s.length+((comC li).drop (a-f).toNat).length)))] [(0,_),(1,_),(2,_),(3,_),(8,_),(9,_),(10,_),(11,_),(12,_)] ⟨rfl,rfl,rfl,rfl,rfl,rfl,rfl,rfl,rfl,trivial⟩ Tryz.func18 rfl ?_ ?_
 · refine xqp 1 rfl rfl (OpP.lenSlice Tryz.underlying22 rfl) ?_;refine xqm 2 rfl ?_;refine RW.split (d:=26) rfl (fun c=>?_) (fun c=>?_)
   · have c:=of_decide_eq_true c;refine xqm 11 rfl ?_;refine RW.done rfl ?_;exact⟨rfl,at_bool rfl (by rw[eq_comm,decide_eq_true];exact .inl (List.eq_nil_iff_length_eq_zero.2 (by omega))),rfl,rfl,rfl,rfl,rfl,rfl,rfl,rfl,rfl,trivial⟩
   · have c:=of_decide_eq_false c;have hne:li≠[]:=fun q=>c (by rw[q];rfl)
     obtain⟨_,p1,p2,p3⟩:=hfr.resolve_left hne;obtain⟨q1,q2,q3⟩:=hapd hne;refine xqp 1 rfl rfl (OpP.lenString Tryz.underlying9 rfl) ?_;refine xqp 1 rfl rfl (OpP.lenString Tryz.underlying9 rfl) ?_;refine xp rfl (OpP.add64 rfl rfl ⟨by omega,by omega⟩) ?_;refine xqp 2 rfl rfl (OpP.sub64 rfl rfl ⟨by omega,by omega⟩) ?_;refine xp rfl (OpP.sub64 rfl rfl ⟨by omega,by omega⟩) ?_;refine xqm 2 rfl ?_;refine RW.done rfl ?_;exact⟨rfl,at_bool rfl (by rw[decide_eq_decide];exact⟨fun q=>.inr (by omega),fun q=>by rcases q with q|q;exact absurd q hne;omega⟩),rfl,rfl,rfl,rfl,rfl,rfl,rfl,rfl,rfl,trivial⟩
 · refine G.ite rfl rfl (fun hc=>?_) (fun hc=>?_)
   · have hR:(if li=[] then (s,a) else if 16384<s.length+((comC li).drop (a-f).toNat).length then (s,a) else (s.take a.toNat++(comC li).drop (a-f).toNat++s.drop a.toNat,a+((comC li).drop (a-f).toNat).length))=(s,a):=by
      by_cases q:li=[]
      · rw[if_pos q]
      · rw[if_neg q,if_pos (hc.resolve_left q)]
     rw[hR];refine xrd Tryz.func18 4 [0,1,2,3,8,9,10,11,12,37] rfl ?_;refine G.ret Tryz.func18 rfl rfl ?_;exact⟨_,rfl,rfl,e1⟩
   · have hne:li≠[]:=fun q=>hc (.inl q)
     obtain⟨_,p1,p2,p3⟩:=hfr.resolve_left hne;obtain⟨q1,q2,q3⟩:=hapd hne;rw[if_neg hne,if_neg (fun q=>hc (.inr q))];obtain⟨f,rfl⟩:∃f':Nat,f=f':=⟨f.toNat,by omega⟩
     obtain⟨p,rfl⟩:∃p:Nat,a=p:=⟨a.toNat,by omega⟩
     rw[Int.toNat_natCast,Int.toNat_natCast] at q3;have hp1:(bs s).extract 0 f=bs (s.take f):=by rw[bs_part s 0 f (Nat.zero_le _),List.drop_zero]
     have hp2:(bs s).extract p (bs s).size=bs (s.drop p):=bs_drop s p;have hz1:=bs_size (s.take f);have hz2:=bs_size (s.drop p);rw[List.length_take] at hz1;rw[List.length_drop] at hz2;refine G.skip rfl ?_;refine G.seq rfl ?_;refine G.draw (fun b=>Array.size h1≤b) (fun i=>Nat.blt i 15) (sz:=15) (listed:= #[false,false,false,false,false,false,false,false,false,false,false,false,false,false,false]) Tryz.func18 H.mixed rfl rfl rfl ?_;refine xtq 0 1 (by kernel_rfl) rfl ?_;refine xtq 1 3 (by kernel_rfl) rfl ?_;refine xtp 2 7 (by kernel_rfl) rfl (fun h' e=>OpP.sliceStrHi Tryz.underlying9 rfl rfl f rfl (by omega)) ?_;rw[hp1];refine xtq 3 15 (by kernel_rfl) rfl ?_;refine xtp 4 31 (by kernel_rfl) rfl (fun h' e=>OpP.addStr rfl rfl (by omega)) ?_;refine xtq 5 63 (by kernel_rfl) rfl ?_;refine xtq 6 127 (by kernel_rfl) rfl ?_;refine xtp 7 255 (by kernel_rfl) rfl (fun h' e=>OpP.sliceStrLo Tryz.underlying9 rfl rfl p rfl (by omega)) ?_;rw[hp2];refine xtp 8 511 (by kernel_rfl) rfl (fun h' e=>OpP.addStr rfl rfl (by rw[ByteArray.size_append];omega)) ?_;refine xtq 9 1023 (by kernel_rfl) rfl ?_;refine xtq 10 2047 (by kernel_rfl) rfl ?_;refine xtp 11 4095 (by kernel_rfl) rfl (fun h' e=>OpP.lenString Tryz.underlying9 rfl) ?_;refine xtp 12 8191 (by kernel_rfl) rfl (fun h' e=>OpP.add64 rfl rfl ⟨by omega,by omega⟩) ?_;refine xtq 13 16383 (by kernel_rfl) rfl ?_;refine xtq 14 32767 (by kernel_rfl) rfl ?_;refine RD.done (by kernel_rfl) ?_;refine xu [0,1,2,3,8,9,10,11,12,37] rfl ?_;refine G.ret Tryz.func18 rfl rfl ?_;refine⟨_,rfl,?_,e1⟩;rw[bs_append,bs_append,Int.toNat_natCast,q3,show (p:Int)+((comC li).drop ((p:Int)-(f:Nat)).toNat).length=(f:Int)+((comC li).length:Nat) by omega];rfl
theorem both_calls (hg:WordsAt h) (s:By) (hs:s.length≤1000000) (hv:SlR eTk h O v l) (hw:SlR eBy h O' w names) (hn:names.length≤1000) (hl:∀x∈names,x.length≤1000000) (a:Int) :
 CallsH Tryz.prog 9 #[.string (bs s),v,.int .i64 a,w] h (Ret fun r h'=>r= .bool true∧Ext0 h h'):=by
 refine CallsH.of Tryz.func9 rfl rfl ?_;refine xrd Tryz.func9 1 [0,1,2,3,8] rfl ?_;refine xra Tryz.func9 4 rfl ?_;refine xo rfl (OpX.call (vs:=[_,_,_,_]) Tryz.func14 rfl H.nm14 rfl (CallsH.toX (Of_calls hg s hs hv hw hn a))) ?_;rintro _ h1 ⟨⟨v1,rfl,ho1⟩,e1⟩;refine xqd 5 [0,1,2,3,8,9,10] rfl ?_;refine xra Tryz.func9 4 rfl ?_;refine xo rfl (OpX.call (vs:=[_,_,_,_]) Tryz.func17 rfl H.nm17 rfl (CallsH.toX (rOf_calls s hs (hv.ext0 e1) (hw.ext0 e1) hn a))) ?_;rintro _ h2 ⟨⟨v2,rfl,hs2⟩,e2⟩;have e02:=e1.trans e2;refine xqd 5 [0,1,2,3,8,9,10,11,12] rfl ?_;refine xra Tryz.func9 4 rfl ?_;refine xo rfl (OpX.call (vs:=[_,_,_,_]) Tryz.func15 rfl H.nm15 rfl (CallsH.toX (Apply_calls (e02.rowAt (fun q=>q) hg) s hs (hv.ext0 e02) (hw.ext0 e02) hn hl a))) ?_;rintro _ h3 ⟨rfl,e3⟩;refine xqd 5 [0,1,2,3,8,9,10,11,12,13,14] rfl ?_;refine xra Tryz.func9 4 rfl ?_;refine xo rfl (OpX.call (vs:=[_,_,_,_]) Tryz.func18 rfl H.nm18 rfl (CallsH.toX (rApply_calls s hs (hv.ext0 (e02.trans e3)) (hw.ext0 (e02.trans e3)) hn hl a))) ?_;rintro _ h4 ⟨rfl,e4⟩;have e24:=e3.trans e4;have hs1:SlR eBy h4 (fun _=>False) v1 (ofC s l a names).2:=(OwE.read (h1:=fun _=>rfl) ho1 (fun _ _ q=>q):SlR eBy h1 (fun _=>False) v1 (ofC s l a names).2).ext0 (e2.trans e24);have hs2':=hs2.ext0 e24;have hll:=of_len s l a hl;refine xqd 5 [0,1,2,3,8,9,10,11,12,13,14,15,16] rfl ?_;refine G.seq rfl ?_;refine G.regTo1 [(8,.bool true)] [(0,_),(1,_),(2,_),(3,_),(9,_),(10,_),(11,_),(12,_),(13,_),(14,_),(15,_),(16,_)] ⟨rfl,rfl,rfl,rfl,rfl,rfl,rfl,rfl,rfl,rfl,rfl,rfl,trivial⟩ Tryz.func9 rfl ?_ ?_
 · refine xqm 4 rfl ?_;refine RW.know (d:=52) (b':=true) rfl (decide_eq_true (rfl)) ?_;refine xqm 2 rfl ?_;refine xo rfl (OpX.call (vs:=[_,_]) Tryz.func19 rfl H.nm19 rfl (CallsH.toX (texts_calls hs1 hs2'))) ?_;rintro _ h4 ⟨rfl,rfl⟩;refine xqm 2 rfl ?_;refine RW.know (d:=57) (b':=true) rfl (decide_eq_true (rfl)) ?_;refine xqp 2 rfl rfl (OpP.eqlStr rfl rfl) ?_;refine xqm 2 rfl ?_;refine RW.know (d:=62) (b':=true) rfl (decide_eq_true (rfl)) ?_;refine xqm 5 rfl ?_;refine RW.know (d:=67) (b':=true) rfl (decide_eq_true (rfl)) ?_;refine xqm 1 rfl ?_;refine xo rfl (OpX.call (vs:=[_]) Tryz.func10 rfl H.nm10 rfl (CallsH.toX (Common_calls hs1 hll))) ?_;rintro _ h4 ⟨rfl,rfl⟩;refine xqm 1 rfl ?_;refine xo rfl (OpX.call (vs:=[_]) Tryz.func11 rfl H.nm11 rfl (CallsH.toX (rCommon_calls hs2' hll))) ?_;rintro _ h4 ⟨rfl,rfl⟩;refine xp rfl (OpP.eqlStr rfl rfl) ?_;refine xqm 2 rfl ?_;refine RW.done rfl ?_;exact⟨rfl,at_bool rfl (by simp),rfl,rfl,rfl,rfl,rfl,rfl,rfl,rfl,rfl,rfl,rfl,rfl,trivial⟩
 · refine G.ret Tryz.func9 rfl rfl ?_;exact⟨_,rfl,rfl,e02.trans e24⟩
def nmC:List By:=[[102,111,114,107],[102,111,114],[102,111,111]]
theorem lex_le:(allP [108,101]).1=[(3,0,2)]∧(allP [102,111]).1=[(3,0,2)]∧(allP [102,111,114,107]).1=[(3,0,4)]:=by decide +kernel
theorem of_le:ofC [108,101] [(3,0,2)] 2 []=(0,[[108,101,116]]):=by
 unfold ofC;rw[if_neg (by decide)]
 show ((0:Int),listC [108,101] [])=_
 rw[←list_doc];decide
theorem of_fo:ofC [102,111] [(3,0,2)] 2 nmC=(0,[[102,111,111],[102,111,114],[102,111,114,107]]):=by
 unfold ofC;rw[if_neg (by decide)]
 show ((0:Int),listC [102,111] nmC)=_
 rw[←list_doc];decide
theorem of_fork:ofC [102,111,114,107] [(3,0,4)] 3 nmC=(0,[[102,111,114],[102,111,114,107]]):=by
 unfold ofC;rw[if_neg (by decide)]
 show ((0:Int),listC [102,111,114] nmC)=_
 rw[←list_doc];decide
theorem ap_le:applyC [108,101] [(3,0,2)] 2 []=([108,101,116],3):=by unfold applyC;rw[of_le];decide
theorem ap_fo:applyC [102,111] [(3,0,2)] 2 nmC=([102,111],2):=by unfold applyC;rw[of_fo];decide
theorem ap_fork:applyC [102,111,114,107] [(3,0,4)] 3 nmC=([102,111,114,107],3):=by unfold applyC;rw[of_fork];decide
theorem completed_calls (hg:ComG h):CallsH Tryz.prog 7 #[] h (Ret fun r h'=>r= .bool true∧Ext0 h h'):=by
 obtain⟨lim,hlim,hsg⟩:=hg.lx.sg;obtain⟨hl1,hl2,hl3⟩:=lex_le;have hnl:∀x∈nmC,x.length≤1000000:=fun x hx=>Nat.le_trans ((show ∀x∈nmC,x.length≤10 by decide) x hx) (by decide)
 refine CallsH.of Tryz.func7 rfl rfl ?_;refine xrd Tryz.func7 1 [0] rfl ?_;refine xr Tryz.func7 rfl ?_;refine xo rfl (OpX.call (vs:=[]) Tryz.func12 rfl H.nm12 rfl (CallsH.toX (new_calls hsg hlim hg.lx.tens hg.lx.rules))) ?_;rintro p h1 ⟨hL,e1⟩;refine xqd 1 [0,1] rfl ?_;refine xr Tryz.func7 rfl ?_;refine xo rfl (OpX.buildOnes (us:=[_,_,_]) Tryz.underlying22 H.el9 rfl rfl (by decide) (by simp[Value.oneCell'])) ?_;rintro _ h2 ⟨rfl,hh2⟩;have e2:Ext0 h1 h2:=by rw[hh2];exact Ext.push _ _ _
 have e02:=e1.trans e2
 have hnm:SlR eBy h2 (fun _=>False) (.slice (some ⟨h1.size,0,none⟩) 3 3) nmC:=by
  rw[hh2];exact OwE.read (h1:=fun _=>rfl) (OwE.made encT h1 9 nmC 3 rfl (by decide) h1.size (Nat.le_refl _) rfl) (fun _ _ k=>k)
 refine xqd 1 [0,1,2] rfl ?_;refine xra Tryz.func7 1 rfl ?_;refine xo rfl (OpX.call (vs:=[_,_]) Tryz.func13 rfl H.nm13 rfl (CallsH.toX (lall_calls (hg.lx.ext0 e02) (hL.ext0 e2) [108,101] (by decide)))) ?_;rintro _ h3 ⟨⟨v3,rfl,hv3⟩,e3⟩;refine xqm 3 rfl ?_;refine xo rfl (OpX.allocN H.zr27) ?_;rintro _ h4 ⟨rfl,k4,e4,z4⟩;refine xqm 1 rfl ?_;refine RW.op0 rfl rfl rfl (OpX.storeBlk H.sz27 rfl rfl k4 (by first|rfl|(simp;done)|(simp;omega)) (by first|decide|exact of_decide_eq_true rfl|(simp;done)|(simp;omega)) (by first|decide|simp[Value.oneCell'])) ?_;rintro _ h5 ⟨rfl,k5,x5,z5⟩;rw[hl1] at hv3;have f5:=e3.trans (Ext0.only e4 x5 (Nat.le_refl _));have e05:=e02.trans f5;have hv5:=hv3.ext0 (Ext0.only e4 x5 (Nat.le_refl _));refine xd [0,1,2,3] rfl ?_;refine xra Tryz.func7 1 rfl ?_;refine xo rfl (OpX.call (vs:=[_,_,_,_]) Tryz.func15 rfl H.nm15 rfl (CallsH.toX (Apply_calls (e05.rowAt (fun q=>q) hg.words) [108,101] (by decide) hv5 (SlR.nil eBy h5 (fun _=>False)) (by decide) (fun x hx=>by cases hx) 2))) ?_;rintro _ h6 ⟨rfl,e6⟩;rw[ap_le];have e06:=e05.trans e6;have hL6:=hL.ext0 ((e2.trans f5).trans e6);refine xqd 5 [0,1,2,3,5,6] rfl ?_;refine xra Tryz.func7 1 rfl ?_;refine xo rfl (OpX.call (vs:=[_,_]) Tryz.func13 rfl H.nm13 rfl (CallsH.toX (lall_calls (hg.lx.ext0 e06) hL6 [102,111] (by decide)))) ?_;rintro _ h7 ⟨⟨v7,rfl,hv7⟩,e7⟩;refine xqm 3 rfl ?_;refine xo rfl (OpX.allocN H.zr27) ?_;rintro _ h8 ⟨rfl,k8,e8,z8⟩;refine xqm 1 rfl ?_;refine RW.op0 rfl rfl rfl (OpX.storeBlk H.sz27 rfl rfl k8 (by first|rfl|(simp;done)|(simp;omega)) (by first|decide|exact of_decide_eq_true rfl|(simp;done)|(simp;omega)) (by first|decide|simp[Value.oneCell'])) ?_;rintro _ h9 ⟨rfl,k9,x9,z9⟩;rw[hl2] at hv7;have f9:=e7.trans (Ext0.only e8 x9 (Nat.le_refl _));have e09:=e06.trans f9;have hv9:=hv7.ext0 (Ext0.only e8 x9 (Nat.le_refl _));have hnm9:=hnm.ext0 ((f5.trans e6).trans f9);refine xd [0,1,2,3,5,6,7] rfl ?_;refine xra Tryz.func7 2 rfl ?_;refine xo rfl (OpX.call (vs:=[_,_,_,_]) Tryz.func14 rfl H.nm14 rfl (CallsH.toX (Of_calls (e09.rowAt (fun q=>q) hg.words) [102,111] (by decide) hv9 hnm9 (by decide) 2))) ?_;rintro _ h10 ⟨⟨lv,rfl,ho10⟩,e10⟩;rw[of_fo] at ho10 ⊢;have e010:=e09.trans e10;refine xqd 5 [0,1,2,3,5,6,7,9,10] rfl ?_;refine xra Tryz.func7 2 rfl ?_;refine xo rfl (OpX.call (vs:=[_,_,_,_]) Tryz.func15 rfl H.nm15 rfl (CallsH.toX (Apply_calls (e010.rowAt (fun q=>q) hg.words) [102,111] (by decide) (hv9.ext0 e10) (hnm9.ext0 e10) (by decide) hnl 2))) ?_;rintro _ h11 ⟨rfl,e11⟩;rw[ap_fo];have e011:=e010.trans e11;have hL11:=hL6.ext0 ((f9.trans e10).trans e11);refine xqd 5 [0,1,2,3,5,6,7,9,10,11] rfl ?_;refine xra Tryz.func7 1 rfl ?_;refine xo rfl (OpX.call (vs:=[_,_]) Tryz.func13 rfl H.nm13 rfl (CallsH.toX (lall_calls (hg.lx.ext0 e011) hL11 [102,111,114,107] (by decide)))) ?_;rintro _ h12 ⟨⟨v12,rfl,hv12⟩,e12⟩;refine xqm 3 rfl ?_;refine xo rfl (OpX.allocN H.zr27) ?_;rintro _ h13 ⟨rfl,k13,e13,z13⟩;refine xqm 1 rfl ?_;refine RW.op0 rfl rfl rfl (OpX.storeBlk H.sz27 rfl rfl k13 (by first|rfl|(simp;done)|(simp;omega)) (by first|decide|exact of_decide_eq_true rfl|(simp;done)|(simp;omega)) (by first|decide|simp[Value.oneCell'])) ?_;rintro _ h14 ⟨rfl,k14,x14,z14⟩;rw[hl3] at hv12;have f14:=e12.trans (Ext0.only e13 x14 (Nat.le_refl _));have e014:=e011.trans f14;have hv14:=hv12.ext0 (Ext0.only e13 x14 (Nat.le_refl _));have hnm14:=hnm9.ext0 ((e10.trans e11).trans f14);refine xd [0,1,2,3,5,6,7,9,10,11,13] rfl ?_;refine xra Tryz.func7 2 rfl ?_;refine xo rfl (OpX.call (vs:=[_,_,_,_]) Tryz.func15 rfl H.nm15 rfl (CallsH.toX (Apply_calls (e014.rowAt (fun q=>q) hg.words) [102,111,114,107] (by decide) hv14 hnm14 (by decide) hnl 3))) ?_;rintro _ h15 ⟨rfl,e15⟩;rw[ap_fork];have e015:=e014.trans e15;have hs10:SlR eBy h15 (fun _=>False) lv [[102,111,111],[102,111,114],[102,111,114,107]]:=(OwE.read (h1:=fun _=>rfl) ho10 (fun _ _ q=>q):SlR eBy h10 (fun _=>False) lv _).ext0 ((e11.trans f14).trans e15);obtain⟨oa,on,oc,rfl,hos⟩:=hs10.open;have hon:3=on:=hos.len;subst hon;obtain⟨b0,o0,y0,ha0,_,hy0,hc0⟩:=hos.at (i:=0) (by decide);obtain⟨b1,o1,y1,ha1,_,hy1,hc1⟩:=hos.at (i:=1) (by decide);obtain⟨b2,o2,y2,ha2,_,hy2,hc2⟩:=hos.at (i:=2) (by decide);cases hy0;cases hy1;cases hy2;refine xqd 5 [0,1,2,3,5,6,7,9,10,11,13,15] rfl ?_;refine G.seq rfl ?_;refine G.regTo1 [(0,.bool true)] [(1,_),(2,_),(3,_),(5,_),(6,_),(7,_),(9,_),(10,_),(11,_),(13,_),(15,_)] ⟨rfl,rfl,rfl,rfl,rfl,rfl,rfl,rfl,rfl,rfl,rfl,trivial⟩ Tryz.func7 rfl ?_ ?_
 · refine xqp 1 rfl rfl (OpP.eqlStr rfl rfl) ?_;refine xqm 1 rfl ?_;refine RW.know (d:=59) (b':=true) rfl (decide_eq_true (rfl)) ?_;refine xqm 4 rfl ?_;refine RW.know (d:=63) (b':=true) rfl (decide_eq_true (rfl)) ?_;refine xqm 4 rfl ?_;refine RW.know (d:=67) (b':=true) rfl (decide_eq_true (rfl)) ?_;refine xqp 1 rfl rfl (OpP.lenSlice Tryz.underlying22 rfl) ?_;refine xqm 3 rfl ?_;refine RW.know (d:=72) (b':=true) rfl (decide_eq_true (rfl)) ?_;refine xqp 1 rfl rfl (OpP.indexSlice Tryz.underlying22 H.sz9 rfl rfl 0 rfl ha0 (by decide)) ?_;refine xp rfl (OpP.load H.ag9 rfl hc0) ?_;refine xp rfl (OpP.eqlStr rfl rfl) ?_;refine xqm 2 rfl ?_;refine RW.know (d:=78) (b':=true) rfl (decide_eq_true (rfl)) ?_;refine xqp 1 rfl rfl (OpP.indexSlice Tryz.underlying22 H.sz9 rfl rfl 1 rfl ha1 (by decide)) ?_;refine xp rfl (OpP.load H.ag9 rfl hc1) ?_;refine xp rfl (OpP.eqlStr rfl rfl) ?_;refine xqm 2 rfl ?_;refine RW.know (d:=84) (b':=true) rfl (decide_eq_true (rfl)) ?_;refine xqp 1 rfl rfl (OpP.indexSlice Tryz.underlying22 H.sz9 rfl rfl 2 rfl ha2 (by decide)) ?_;refine xp rfl (OpP.load H.ag9 rfl hc2) ?_;refine xp rfl (OpP.eqlStr rfl rfl) ?_;refine xqm 2 rfl ?_;refine RW.know (d:=90) (b':=true) rfl (decide_eq_true (rfl)) ?_;refine xqp 1 rfl rfl (OpP.eqlStr rfl rfl) ?_;refine xqm 2 rfl ?_;refine RW.know (d:=94) (b':=true) rfl (decide_eq_true (rfl)) ?_;refine xqp 1 rfl rfl (OpP.eqlStr rfl rfl) ?_;refine xqm 2 rfl ?_;refine RW.done rfl ?_;exact⟨rfl,at_bool rfl (rfl),rfl,rfl,rfl,rfl,rfl,rfl,rfl,rfl,rfl,rfl,rfl,trivial⟩
 · refine G.ret Tryz.func7 rfl rfl ?_;exact⟨_,rfl,rfl,e015⟩
theorem and7 (a:Int):0≤IntKind.i64.wrap ((BitVec.ofInt IntKind.i64.bits a &&& BitVec.ofInt IntKind.i64.bits 7).toNat:Int)∧IntKind.i64.wrap ((BitVec.ofInt IntKind.i64.bits a &&& BitVec.ofInt IntKind.i64.bits 7).toNat:Int)≤7:=by
 have h:(BitVec.ofInt IntKind.i64.bits a &&& BitVec.ofInt IntKind.i64.bits 7).toNat≤7:=by
  rw[BitVec.toNat_and];exact Nat.and_le_right
 rw[wrap_i64 (by omega)];omega
theorem zeros_made {g:Heap}{base:Nat}{n:Nat}(ho:OwnH g base 5 1 v n (List.replicate n (.int .u8 0))):SlR .byte g (fun _=>False) v (List.replicate n (0:UInt8)):=by
 have:OwE encB g base 5 v (List.replicate n (0:UInt8)):=by
  show OwnH _ _ _ _ _ _ _
  rw[List.length_replicate,List.map_replicate];exact ho
 exact OwE.read (h1:=fun _=>rfl) this (fun _ _ q=>q)
theorem completeRaw_calls (hg:ComG h) (hv:SlR eTk h (fun _=>False) v l) (hw:SlR eBy h (fun _=>False) w names) (a0 a1:Int) :
 CallsH Tryz.prog 4 #[v,w,.agg #[.int .i64 a0,.int .i64 a1]] h (Ret fun r h'=>r= .bool true∧Ext0 h h'):=by
 obtain⟨va,vn,vc,rfl,hvs⟩:=id hv.open;have hxl:l.length=vn:=hvs.len;subst hxl;refine CallsH.of Tryz.func4 rfl rfl ?_;refine xr Tryz.func4 rfl ?_;refine xo rfl (OpX.boxN rfl) ?_;rintro _ h1 ⟨rfl,k1,e1,z1⟩;have k1:Blk h1 h.size 32 [.int .i64 a0,.int .i64 a1]:=k1;have hw1:=hw.ext0 e1;have hv1:=hv.ext0 e1;have hgr:=great_calls hw1;refine xqd 1 [0,1,2,5,6] rfl ?_;refine G.seq rfl ?_;refine G.seq rfl ?_;refine G.regTo1 [(15,.bool (decide (10<l.length) ||greatB names))] [(0,_),(1,_),(2,_),(5,_),(6,_)] ⟨rfl,rfl,rfl,rfl,rfl,trivial⟩ Tryz.func4 rfl ?_ ?_
 · refine xqp 1 rfl rfl (OpP.lenSlice Tryz.underlying25 rfl) ?_;refine xqm 2 rfl ?_;refine RW.split (d:=12) rfl (fun c=>?_) (fun c=>?_)
   · have c:=of_decide_eq_true c;refine xqm 3 rfl ?_;refine RW.done rfl ?_;exact⟨rfl,at_bool rfl (by rw[decide_eq_true (show 10<l.length by omega)];rfl),rfl,rfl,rfl,rfl,rfl,trivial⟩
   · have c:=of_decide_eq_false c;refine xqm 1 rfl ?_;refine xo rfl (OpX.call (vs:=[_]) Tryz.func6 rfl H.nm6 rfl (CallsH.toX (hgr))) ?_;rintro _ h1 ⟨rfl,rfl⟩;refine xqm 1 rfl ?_;refine RW.done rfl ?_;exact⟨rfl,at_bool rfl (by rw[decide_eq_false (show ¬10<l.length by omega)];rfl),rfl,rfl,rfl,rfl,rfl,trivial⟩
 · refine G.cond rfl rfl (fun hgt=>?_) (fun hgt=>?_)
   · refine xr Tryz.func4 rfl ?_;refine xo rfl (OpX.call (vs:=[]) Tryz.func7 rfl H.nm7 rfl (CallsH.toX (completed_calls (hg.ext0 e1)))) ?_;rintro _ h2 ⟨rfl,e2⟩;refine xqd 1 [0,1,2,5,6,15] rfl ?_;refine G.ret Tryz.func4 rfl rfl ?_;exact⟨_,rfl,rfl,e1.trans e2⟩
   · have hgt:(decide (10<l.length) ||greatB names)=false:=by simpa using hgt
     rw[Bool.or_eq_false_iff] at hgt;obtain⟨hnl,hn⟩:=great_not hgt.2;have hnl2:∀x∈names,x.length≤1000000:=fun x hx=>Nat.le_trans (hnl x hx) (by decide)
     obtain⟨h70,h77⟩:=and7 a1;obtain⟨m,hm⟩:∃m:Nat,16382-IntKind.i64.wrap ((BitVec.ofInt IntKind.i64.bits a1 &&& BitVec.ofInt IntKind.i64.bits 7).toNat:Int)=(m:Nat):=⟨(16382-IntKind.i64.wrap ((BitVec.ofInt IntKind.i64.bits a1 &&& BitVec.ofInt IntKind.i64.bits 7).toNat:Int)).toNat,by omega⟩
     have hm2:m≤16382:=by omega
     refine G.skip rfl ?_;refine xr Tryz.func4 rfl ?_;refine xp rfl (OpP.indexArr Tryz.underlying32 H.sz3 rfl rfl 1 rfl (by decide)) ?_;refine xp rfl (OpP.load H.ag3 rfl (k1.cell (i:=1) rfl)) ?_;refine xp rfl (OpP.bits_and rfl rfl) ?_;refine xp rfl (OpP.sub64 rfl rfl ⟨by omega,by omega⟩) ?_;rw[hm];have hzl:(List.replicate m (0:UInt8)).length=m:=List.length_replicate;have hz0:=bs_size (List.replicate m (0:UInt8));rw[hzl] at hz0;refine xo rfl (OpX.makeOnes Tryz.underlying33 H.el5 H.zr5 rfl rfl rfl (by omega) (by decide)) ?_;rintro _ h4 ⟨rfl,ho4,e4⟩;refine xp rfl (OpP.convBytes Tryz.underlying33 Tryz.underlying5 Tryz.underlying9 rfl (zeros_made ho4)) ?_;rw[show (⟨(List.replicate m (0:UInt8)).toArray⟩:ByteArray)=bs (List.replicate m (0:UInt8)) from rfl];refine xp rfl (OpP.addStr rfl rfl (by rw[hz0];show 2+_≤_;omega)) ?_;refine xqd 1 [0,1,2,5,6,7,15] rfl ?_;refine xr Tryz.func4 rfl ?_;refine xp rfl (OpP.build (H.bd35_0_1_2 _ _ _) rfl) ?_;refine xo rfl (OpX.buildRec (cs:=[_,_,_]) Tryz.underlying25 H.el35 rfl rfl (by decide)) ?_;rintro _ h5 ⟨rfl,hh5⟩;rw[show (⟨#[102,111]⟩:ByteArray)=bs [102,111] from rfl,bs_append];obtain⟨s2,hs2⟩:∃s2,s2=[102,111]++List.replicate m (0:UInt8):=⟨_,rfl⟩
     have hs2l:s2.length≤1000000:=by rw[hs2,List.length_append,hzl];simp only[List.length_cons,List.length_nil];omega
     rw[←hs2];have e5:Ext0 h4 h5:=by rw[hh5];exact Ext.push _ _ _
     have e15:=e4.trans e5;have e05:=e1.trans e15;have hst:SlR eTk h5 (fun _=>False) (.slice (some ⟨h4.size,0,none⟩) 1 1) [((3:Int),(0:Int),(2:Int))]:=by rw[hh5];exact recs_made h4 [((3:Int),(0:Int),(2:Int))] _ 1 rfl (by decide) rfl
     have hw5:=hw1.ext0 e15;have hv5:=hv1.ext0 e15;have hW5:=e05.rowAt (fun q=>q) hg.words;refine xqd 1 [0,1,2,5,6,7,8,15] rfl ?_;refine G.seq rfl ?_;refine G.regToX (fun(u:Unit) (h':Heap)=>Ext0 h5 h') (fun(u:Unit)=>[(6,.bool true)]) [(0,_),(1,_),(2,_),(5,_),(7,_),(8,_),(15,_)] ⟨rfl,rfl,rfl,rfl,rfl,rfl,rfl,trivial⟩ Tryz.func4 rfl ?_ ?_
     · refine xqp 1 rfl rfl (OpP.indexArr Tryz.underlying32 H.sz3 rfl rfl 0 rfl (by decide)) ?_;refine xp rfl (OpP.load H.ag3 rfl ((k1.ext0 e15).cell (i:=0) rfl)) ?_;refine xqm 1 rfl ?_;refine xo rfl (OpX.call (vs:=[_,_,_,_]) Tryz.func9 rfl H.nm9 rfl (CallsH.toX (both_calls hW5 [102,111,102,111,114,107] (by decide) hv5 hw5 (by omega) hnl2 a0))) ?_;rintro _ h6 ⟨rfl,e6⟩;refine xqm 1 rfl ?_;refine RW.know (d:=31) (b':=true) rfl (rfl) ?_;refine xqm 3 rfl ?_;refine xo rfl (OpX.call (vs:=[_,_,_,_]) Tryz.func9 rfl H.nm9 rfl (CallsH.toX (both_calls (e6.rowAt (fun q=>q) hW5) s2 hs2l (hst.ext0 e6) (hw5.ext0 e6) (by omega) hnl2 2))) ?_;rintro _ h7 ⟨rfl,e7⟩;refine xqm 2 rfl ?_;refine RW.know (d:=37) (b':=true) rfl (rfl) ?_;refine xqm 1 rfl ?_;refine xo rfl (OpX.call (vs:=[_]) Tryz.func10 rfl H.nm10 rfl (CallsH.toX (Common_calls (hw5.ext0 (e6.trans e7)) hnl2))) ?_;rintro _ h7 ⟨rfl,rfl⟩;refine xqm 1 rfl ?_;refine xo rfl (OpX.call (vs:=[_]) Tryz.func11 rfl H.nm11 rfl (CallsH.toX (rCommon_calls (hw5.ext0 (e6.trans e7)) hnl2))) ?_;rintro _ h7 ⟨rfl,rfl⟩;refine xp rfl (OpP.eqlStr rfl rfl) ?_;refine xqm 2 rfl ?_;refine RW.know (d:=44) (b':=true) rfl (decide_eq_true (rfl)) ?_;refine xo rfl (OpX.call (vs:=[]) Tryz.func7 rfl H.nm7 rfl (CallsH.toX (completed_calls (hg.ext0 (e05.trans (e6.trans e7)))))) ?_;rintro _ h8 ⟨rfl,e8⟩;refine xqm 2 rfl ?_;refine RW.done rfl ?_;exact⟨(),(e6.trans e7).trans e8,at_bool rfl (rfl),rfl,rfl,rfl,rfl,rfl,rfl,rfl,trivial⟩
     · rintro u h8 e8;refine G.ret Tryz.func4 rfl rfl ?_;exact⟨_,rfl,rfl,e05.trans e8⟩
end
end Go.Proofs.YtfegacfjgjaghaaGreatDoor
namespace Go.Proofs.YtfegacfjgjaghaaGreatDoor
open Go Go.Lw Go.ChangeShapes Go.WideShapes Go.ChangeAt Go.RowKit
set_option maxRecDepth 100000
section
variable {W:World}
theorem words_data:(Rows.laid_limner_complete_words:DataW Unit)= .agg (wordsC.map fun s=>.lit (.string s)):=by kernel_rfl
theorem com_glob (hL:laidMetH Tryz.prog Rows.completeOfRow.laid W) (hS:W.ShapedOpen Tryz.prog):ComG W.heap:=by
 refine⟨lex_glob hL hS,fun n v hv=>?_⟩;rw[MakeChecks.laidMetH_plain _ _ _ (by kernel_rfl)] at hL;have h4:=Lib.laidMet.reads hL (n:= "limner/complete.words") (.tail _ (.tail _ (.tail _ (.tail _ (.head _)))));rw[words_data] at h4;have hn:n<10:=by have:=(List.getElem?_eq_some_iff.1 hv).1;rw[List.length_map] at this;exact this
 rw[List.getElem?_map,List.getElem?_eq_getElem (show n<wordsC.length from hn)] at hv;have hv:v=encT wordsC[n]:=(Option.some.inj hv).symm;subst hv;obtain⟨g,t,cs,fuel,p,hg,hty,hvar,hd⟩:=h4;obtain rfl:=Option.some.inj ((show Tryz.prog.globalNamed "limner/complete.words" =some 1 by kernel_rfl).symm.trans hg);obtain rfl:=Option.some.inj ((show (Tryz.prog.globals[1]?).map (·.type)=some 70 by kernel_rfl).symm.trans hty);obtain⟨fuel',d,q,hdi,he⟩:=Lib.array_elem Tryz.underlying70 hd n hn
 have hdi:d= .lit (.string wordsC[n]):=by
  rw[List.getElem?_map,List.getElem?_eq_getElem (show n<wordsC.length from hn)] at hdi;exact(Option.some.inj hdi).symm
 subst hdi;have c1:Tryz.prog.cellsOf 9=1:=by kernel_rfl
 rw[c1] at he;have hv:=trod_str_lit Tryz.underlying9 he;have e0:=congrArg (·[0]?) hv;simp only[List.getElem?_take,List.getElem?_drop] at e0;rw[Nat.zero_add,←cell_heap,World.var?_cell hg hvar n,←Array.getElem?_toList]
 show _=some (Value.string ⟨wordsC[n].toArray⟩)
 simpa using e0
theorem fieldsTk:Tryz.prog.underlying 35=some (.struct (Tryz.prog.fieldsOf 35)):=by kernel_rfl
theorem read_toks {H:Type}{enc:TypeId×Value→H}{base:Nat}{v:Value}{d:DataW H}{p:List MemPlace}(hv:Value.okWide Tryz.prog W .any base 25 v) (h:DataW.Trod enc Tryz.prog W 0 (fun _=>true) true 25 v d p) :
 ∃l:List Tk,SlR eTk W.heap (fun _=>False) v l:=by
 obtain⟨l,hl,_⟩:=read_recs (Q:=fun _=>True) (pos:=(by decide:0<3)) (hl:=fun a=>(rfl:(encTk a).length=3)) (h1:=tk_one) (fs:=Tryz.prog.fieldsOf 35) Tryz.underlying25 fieldsTk (Deep.hone_of (by kernel_rfl)) (by kernel_rfl) rfl (fun cs n hl hf=>by
  match cs,hl with
  | [c0,c1,c2],_ =>
   obtain⟨y0,h0⟩:=hf 0 _ c0 rfl rfl;obtain⟨y1,h1⟩:=hf 1 _ c1 rfl rfl;obtain⟨y2,h2⟩:=hf 2 _ c2 rfl rfl;obtain⟨n0,e0,_,_⟩:=DataW.trod_int Tryz.underlying3 h0;obtain⟨n1,e1,_,_⟩:=DataW.trod_int Tryz.underlying3 h1;obtain⟨n2,e2,_,_⟩:=DataW.trod_int Tryz.underlying3 h2;simp at e0 e1 e2;subst e0 e1 e2;exact⟨(n0,n1,n2),rfl,trivial⟩) hv h
 exact⟨l,hl⟩
theorem read_two {H:Type}{enc:TypeId×Value→H}{base:Nat}{v:Value}{d:DataW H}{p:List MemPlace}{sp:Nat→Bool}{held:Bool}(hv:Value.okWide Tryz.prog W .any base 32 v) (h:DataW.Trod enc Tryz.prog W 0 sp held 32 v d p):∃a b:Int,v= .agg #[.int .i64 a,.int .i64 b]:=by
 unfold Value.okWide at hv;rw[Tryz.underlying32] at hv;obtain⟨cs,rfl,hs,_⟩:=hv;obtain⟨fuel,hf⟩:=h;obtain⟨xs,m,_,_,hl,hxl,hel⟩:=DataW.trod_array Tryz.underlying32 hf;have c1:Tryz.prog.cellsOf 3=1:=by kernel_rfl
 have c2:Tryz.prog.cellsOf 32=2:=by kernel_rfl
 rw[c2] at hs;rw[c1] at hel;obtain⟨l⟩:=cs
 match l,hs with
 | [u0,u1],_ =>
  have h0:=hel 0 (by decide);have h1:=hel 1 (by decide);rw[List.getElem?_eq_getElem (by omega)] at h0 h1;obtain⟨n0,e0,_,_⟩:=DataW.trod_int Tryz.underlying3 (show DataW.trod enc Tryz.prog W 0 sp held m 3 [u0]=some _ from h0);obtain⟨n1,e1,_,_⟩:=DataW.trod_int Tryz.underlying3 (show DataW.trod enc Tryz.prog W 0 sp held m 3 [u1]=some _ from h1);simp at e0 e1;subst e0 e1;exact⟨n0,n1,rfl⟩
end
end Go.Proofs.YtfegacfjgjaghaaGreatDoor
