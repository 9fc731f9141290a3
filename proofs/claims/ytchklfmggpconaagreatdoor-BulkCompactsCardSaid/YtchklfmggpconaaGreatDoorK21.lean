import Derived.Test.YtchklfmggpconaaGreatDoorK20
namespace Go.Proofs.YtchklfmggpconaaGreatDoor
open Lib renaming hid->oh
section
open Go.RowKit
theorem Tryz.mkE:(Tryz.prog.info? 141).map (λi=>(i.zero,i.size,i.bytes))=some (some (.agg #[.string ⟨#[]⟩,.string ⟨#[]⟩,.int .i64 0,.int .i64 0]),4,48):=by kernel_rfl
theorem Tryz.mkS:(Tryz.prog.info? 9).map (λi=>(i.zero,i.size,i.bytes))=some (some (.string ⟨#[]⟩),1,16):=by kernel_rfl
theorem Tryz.elE:ElT Tryz.prog 116 141 (.agg #[.string ⟨#[]⟩,.string ⟨#[]⟩,.int .i64 0,.int .i64 0]) 4 48:=⟨Tryz.underlying116,Tryz.mkE,rfl,by decide,by decide⟩
theorem Tryz.elS:ElT Tryz.prog 50 9 (.string ⟨#[]⟩) 1 16:=⟨Tryz.underlying50,Tryz.mkS,rfl,by decide,by decide⟩
theorem yU:zBo vA 4:=⟨λ_=>rfl,by intro x u hu;simp[vA] at hu;rcases hu with rfl|rfl|rfl|rfl <;> rfl⟩
theorem yV:zBo qK 1:=⟨λ_=>rfl,by intro x u hu;simp[qK] at hu;subst hu;rfl⟩
theorem yT{P:Program}{α:Type}{F G:Nat->Prop}{w:World}{t e:TypeId}{z:Value}{sz bytes:Nat}{enc:α->List Value}(T:ElT P t e z sz bytes)(E:zBo enc sz)
  {ops:Array Oper} {o:Oper} {a:Act} {K:Act->World->Prop} {Q:Exit->Act->World->Prop} {X:Prop} (hgd:o.guard=none) (sx x:Operand)
  (ho:o.op=.call { callee:=.builtin .append,args:=#[sx,x],argTypes:=#[t,t] })
  (base:Nat) (v s:Value) (l m:List α) (hv:a.eval sx=v) (hx:a.eval x=s) (hown:zU F w base e sz enc v l) (hs:Sl G w sz enc s m) (hb:(l.length+m.length) * bytes<=140737488355328) (hbase:base<=w.heap.size) (hn:¬ F w.heap.size)
  (h:∀a' c' w',zU F w' base e sz enc (.slice a' (l.length+m.length) c') (l++m)->zA (λk=>v.ownBlock=some k) w w' ->
   ((Value.slice a' (l.length+m.length) c').ownBlock=v.ownBlock\/(Value.slice a' (l.length+m.length) c').ownBlock=some w.heap.size)->K (a.put o.dst (.slice a' (l.length+m.length) c')) w') :
  if Region.wanted o (yielded ops a.tmps)=true then Oper.wp P o a w K Q else X:=by
 have hw:Region.wanted o (yielded ops a.tmps)=true:=by simp[Region.wanted,hgd]
 rw[if_pos hw];obtain⟨i,hi,hz,hs1,hb1⟩:=zD1 T.info;obtain⟨a',c',w',hr,h2,h3,h4⟩:=zC0 (P:=P) (F:=F) (G:=G) (w:=w) base t o.type e i z sz bytes T.under hi hz hs1 hb1 T.zs T.sz0 enc E.len E.one v s l m hown hs hb T.by0 hbase hn;unfold Oper.wp execOp;simp only[ho,resolve,invoke,builtin,Sem.run_bind,Sem.run_pure,Result.andThen_ok,pJ,uW,tW,hv,hx,hr];exact h a' c' w' h2 (zA.of_grown h3) h4
theorem zU.far{α β:Type}{F G:Nat->Prop}{w:World}{base base':Nat}{e e':TypeId}{sz sz':Nat}{enc:α->List Value}{enc':β->List Value}{v v':Value}{x:List α}{x':List β}(h:zU F w base e sz enc v x)(h':zU G w base' e' sz' enc' v' x')(hne:e≠e'):∀g,v.ownBlock=some g->v'.ownBlock≠some g:=by
 intro g hg hg';rcases h'.1.2 with ⟨rfl,_⟩|⟨g',cap,cur,rfl,_,h2,_⟩
 .simp[Value.ownBlock] at hg'
 .simp[Value.ownBlock] at hg';subst hg';exact zU.notB h (B:=g') (c:=cur) (t:=e') h2 hne.symm g' hg rfl
def GB(F:Nat->Prop)(w:World):Nat->Prop:=λk=>F k\/(w.heap.size<=k/\k<w.heap.size+2)
def NoF:Nat->Prop:=λ_=>False
structure vT(F:Nat->Prop)(ad:Nat->Addr)(w wr:World)(lf:Bool)(bv:Value)(b:List UInt8)(r:RdA)(es:List zI)(ks:List ByteArray)(is:List Int)(ve vk vi s1 s2 s3:Value):Prop where
 ext:zJ w wr
 env0:yW F ad w
 sl0:Sl F w 1 yE bv b
 box:zL wr (w.heap.size+1) #[bv,.int .i64 r.at_,.bool r.bad] 257
 nd:zL wr (w.heap.size+1+1) #[.bool lf,s1,s2,s3] 118
 oe:zU NoF wr (w.heap.size+3) 141 4 vA ve es
 ok:zU NoF wr (w.heap.size+3) 9 1 qK vk ks
 oi:zU NoF wr (w.heap.size+3) 3 1 yB vi is
 res:zL wr w.heap.size gB 118
section
variable {F:Nat->Prop}{ad:Nat->Addr}{w wr w2:World}{lf:Bool}{bv:Value}{b:List UInt8}{r r':RdA}{es es':List zI}{ks ks':List ByteArray}{is is':List Int}{ve vk vi s1 s2 s3 ve' vk' vi':Value}
theorem vT.base(h:vT F ad w wr lf bv b r es ks is ve vk vi s1 s2 s3):w.heap.size+3<=wr.heap.size:=by have:=h.nd.lt;omega
theorem vT.env(h:vT F ad w wr lf bv b r es ks is ve vk vi s1 s2 s3):yW (GB F w) ad wr :=
 h.env0.step h.ext.ext (λk hk hn hg=>hg.elim hn (λe=>by omega)) (λk hg=>hg.elim (λhf=>uH (h.env0.lt k hf) h.ext.size) (λe=>by have:=h.base;omega))
theorem vT.rd(h:vT F ad w wr lf bv b r es ks is ve vk vi s1 s2 s3):RdR (GB F w) wr (w.heap.size+1) bv b r :=
 ⟨h.box,h.sl0.step h.ext.ext (λk hk hn hg=>hg.elim hn (λe=>by omega)),.inr ⟨by omega,by omega⟩⟩
theorem vT.step(h:vT F ad w wr lf bv b r es ks is ve vk vi s1 s2 s3)(m:zJ wr w2):vT F ad w w2 lf bv b r es ks is ve vk vi s1 s2 s3 :=
 ⟨h.ext.trans m,h.env0,h.sl0,h.box.ext m,h.nd.ext m,h.oe.ext m,h.ok.ext m,h.oi.ext m,h.res.ext m⟩
theorem vT.drew(h:vT F ad w wr lf bv b r es ks is ve vk vi s1 s2 s3):vT F ad w wr.drew lf bv b r es ks is ve vk vi s1 s2 s3:=h.step (zA.refl _ wr).drew
theorem vT.read(h:vT F ad w wr lf bv b r es ks is ve vk vi s1 s2 s3)(m:zA (λk=>k=w.heap.size+1) wr w2)(g:RdR (GB F w) w2 (w.heap.size+1) bv b r'):vT F ad w w2 lf bv b r' es ks is ve vk vi s1 s2 s3 :=
 ⟨zA.past h.ext (m.mono (λk (hk:k=w.heap.size+1)=>by omega)),h.env0,h.sl0,g.own,h.nd.mods m (by omega),
  h.oe.mods m (λg hg=>by have:=h.oe.lt g hg;omega),h.ok.mods m (λg hg=>by have:=h.ok.lt g hg;omega),h.oi.mods m (λg hg=>by have:=h.oi.lt g hg;omega),h.res.mods m (by omega)⟩
theorem vT.row(h:vT F ad w wr lf bv b r es ks is ve vk vi s1 s2 s3){G:Nat->Prop}(hG:∀k,G k->w.heap.size+3<=k)(m:zA G wr w2)
  (oe:zU NoF w2 (w.heap.size+3) 141 4 vA ve' es') (ok:zU NoF w2 (w.heap.size+3) 9 1 qK vk' ks') (oi:zU NoF w2 (w.heap.size+3) 3 1 yB vi' is'):vT F ad w w2 lf bv b r es' ks' is' ve' vk' vi' s1 s2 s3:=by
 have hn:∀k,k<w.heap.size+3->¬ G k:=λk hk g=>by have:=hG k g;omega
 exact⟨zA.past h.ext (m.mono (λk hk=>by have:=hG k hk;omega)),h.env0,h.sl0,h.box.mods m (hn _ (by omega)),h.nd.mods m (hn _ (by omega)),oe,ok,oi,h.res.mods m (hn _ (by omega))⟩
theorem vT.appE(h:vT F ad w wr lf bv b r es ks is ve vk vi s1 s2 s3)(m:zA (λk=>ve.ownBlock=some k) wr w2)(oe:zU NoF w2 (w.heap.size+3) 141 4 vA ve' es'):vT F ad w w2 lf bv b r es' ks is ve' vk vi s1 s2 s3 :=
 h.row (λk hk=>(h.oe.lt k hk).1) m oe (h.ok.mods m (λg hg e=>h.ok.far h.oe (by decide) g hg e)) (h.oi.mods m (λg hg e=>h.oi.far h.oe (by decide) g hg e))
theorem vT.appK(h:vT F ad w wr lf bv b r es ks is ve vk vi s1 s2 s3)(m:zA (λk=>vk.ownBlock=some k) wr w2)(ok:zU NoF w2 (w.heap.size+3) 9 1 qK vk' ks'):vT F ad w w2 lf bv b r es ks' is ve vk' vi s1 s2 s3 :=
 h.row (λk hk=>(h.ok.lt k hk).1) m (h.oe.mods m (λg hg e=>h.oe.far h.ok (by decide) g hg e)) ok (h.oi.mods m (λg hg e=>h.oi.far h.ok (by decide) g hg e))
theorem vT.appI(h:vT F ad w wr lf bv b r es ks is ve vk vi s1 s2 s3)(m:zA (λk=>vi.ownBlock=some k) wr w2)(oi:zU NoF w2 (w.heap.size+3) 3 1 yB vi' is'):vT F ad w w2 lf bv b r es ks is' ve vk vi' s1 s2 s3 :=
 h.row (λk hk=>(h.oi.lt k hk).1) m (h.oe.mods m (λg hg e=>h.oe.far h.oi (by decide) g hg e)) (h.ok.mods m (λg hg e=>h.ok.far h.oi (by decide) g hg e)) oi
theorem vT.far(h:vT F ad w wr lf bv b r es ks is ve vk vi s1 s2 s3){X:Nat}(hX:w.heap.size+3<=X)(m:zA (λk=>k=X) wr w2)(he:ve.ownBlock≠some X)(hk:vk.ownBlock≠some X)(hi:vi.ownBlock≠some X):vT F ad w w2 lf bv b r es ks is ve vk vi s1 s2 s3 :=
 h.row (G:=λk=>k=X) (λk hk=>by omega) m (h.oe.mods m (λg hg e=>he (by rw[hg,e]))) (h.ok.mods m (λg hg e=>hk (by rw[hg,e]))) (h.oi.mods m (λg hg e=>hi (by rw[hg,e])))
theorem vT.slE(h:vT F ad w wr lf bv b r es ks is ve vk vi s1 s2 s3){G:Nat->Prop}(hG:∀k,G k->k<w.heap.size+3)(hl:es.length<=140737488355328):Sl G wr 4 vA ve es :=
 zU.sl (F:=G) ⟨h.oe.1,λg hg f=>by have:=h.oe.lt g hg;have:=hG g f;omega⟩ yU.len hl
theorem vT.slK(h:vT F ad w wr lf bv b r es ks is ve vk vi s1 s2 s3){G:Nat->Prop}(hG:∀k,G k->k<w.heap.size+3)(hl:ks.length<=140737488355328):Sl G wr 1 qK vk ks :=
 zU.sl (F:=G) ⟨h.ok.1,λg hg f=>by have:=h.ok.lt g hg;have:=hG g f;omega⟩ yV.len hl
theorem vT.slI(h:vT F ad w wr lf bv b r es ks is ve vk vi s1 s2 s3){G:Nat->Prop}(hG:∀k,G k->k<w.heap.size+3)(hl:is.length<=140737488355328):Sl G wr 1 yB vi is :=
 zU.sl (F:=G) ⟨h.oi.1,λg hg f=>by have:=h.oi.lt g hg;have:=hG g f;omega⟩ yG.len hl
theorem vT.gb(h:vT F ad w wr lf bv b r es ks is ve vk vi s1 s2 s3):∀k,GB F w k->k<w.heap.size+3:=λk hk=>hk.elim (λhf=>by have:=h.env0.lt k hf;omega) (λe=>by omega)
theorem vT.put(h:vT F ad w wr lf bv b r es ks is ve vk vi s1 s2 s3)(i:Nat)(v t1 t2 t3:Value)(e:(#[.bool lf,s1,s2,s3]:Array Value).setIfInBounds i v=#[.bool lf,t1,t2,t3]):vT F ad w (wr.setCell ⟨w.heap.size+1+1,i,none⟩ v) lf bv b r es ks is ve vk vi t1 t2 t3:=by
 have m:zA (λk=>k=w.heap.size+1+1) wr (wr.setCell ⟨w.heap.size+1+1,i,none⟩ v):=zA.at _ wr _ i v rfl;have hn:=h.nd.set i v;rw[e] at hn;exact⟨zA.past h.ext (m.mono (λk (hk:k=w.heap.size+1+1)=>by omega)),h.env0,h.sl0,h.box.mods m (by omega),hn,
  h.oe.mods m (λg hg=>by have:=h.oe.lt g hg;omega),h.ok.mods m (λg hg=>by have:=h.ok.lt g hg;omega),h.oi.mods m (λg hg=>by have:=h.oi.lt g hg;omega),h.res.mods m (by omega)⟩
theorem vT.text(h:vT F ad w wr lf bv b r es ks is ve vk vi s1 s2 s3)(h0:0<=r.at_)(h1:r.at_<=1000000000000)(s:ByteArray)(hx:jK b r=(s,r')) :
  Calls Tryz.prog 164 #[.pointer (some ⟨w.heap.size+1,0,none⟩)] wr λe w'=>e=.returned (.string s)/\vT F ad w w' lf bv b r' es ks is ve vk vi s1 s2 s3/\zA (λk=>k=w.heap.size+1) wr w':=by
 have:=zMf h.env h.rd h0 h1;rw[hx] at this;exact this.mono λe w' ⟨a1,a2,a3⟩=>⟨a1,h.read a3 a2,a3⟩
theorem vT.num(h:vT F ad w wr lf bv b r es ks is ve vk vi s1 s2 s3)(W:Nat)(hW:W=1\/W=2\/W=4)(h0:0<=r.at_)(h1:r.at_<=1000000000000)(n:Nat)(hx:vI b r W=(n,r')) :
  Calls Tryz.prog 163 #[.pointer (some ⟨w.heap.size+1,0,none⟩),.int .i64 (W:Int)] wr λe w'=>e=.returned (.int .i64 (n:Int))/\vT F ad w w' lf bv b r' es ks is ve vk vi s1 s2 s3/\zA (λk=>k=w.heap.size+1) wr w' :=
 (zHf h.env h.rd W hW h0 h1 n r' hx).mono λ_ _ ⟨a1,a2,a3⟩=>⟨a1,h.read a3 a2,a3⟩
end
end
section
open Go.RowKit
attribute [local go_sem ↓] Go.wp_at_zero Go.wp_at_succ
def zJu(F:Nat->Prop)(ad:Nat->Addr)(w:World)(lf:Bool)(b:List UInt8)(e:Ending)(w':World):Prop :=
 zJ w w'/\((∃n ve vk vi,zD2 lf b=some n/\e=.returned (.tuple #[.agg #[.bool lf,ve,vk,vi],.nilIface])/\Sl F w' 4 vA ve n.entries/\Sl F w' 1 qK vk n.keys/\Sl F w' 1 yB vi n.kids) \/
  (zD2 lf b=none/\∃f,e=.returned (.tuple #[.agg gB,zQ f])/\qQ F ad w' (zQ f) [-1] 1))
theorem Tryz.nodeSize:(Tryz.prog.info? 118).map (·.size)=some 4:=by kernel_rfl
section
variable {F:Nat->Prop}{ad:Nat->Addr}{w wr w2:World}
theorem zK2(b:List UInt8)(r:RdA)(hb:b.length<=1000){k:Nat}(h0:0<=r.at_)(h:r.at_<=1020+10 * (k:Int)):0<=(vR b r).2.at_/\(vR b r).2.at_<=1020+10 * ((k+1:Nat):Int):=by
 have:=zHe b r;omega
set_option maxRecDepth 100000 in
set_option maxHeartbeats 4000000 in
theorem zJv(hL:yW F ad w)(bv:Value)(b:List UInt8)(hb:Sl F w 1 yE bv b)(h1000:b.length<=1000) :
  Calls Tryz.prog 116 #[.bool true,bv] w (zJu F ad w true b):=by
 have HL:=oh hL;have HS0:Hid (vT F ad w (((w.alloc gB).alloc (.cells #[bv,.int .i64 0,.bool false] 257)).alloc (.cells #[.bool true,.slice none 0 0,.slice none 0 0,.slice none 0 0] 118)) true bv b ⟨0,false⟩ [] [] [] (.slice none 0 0) (.slice none 0 0) (.slice none 0 0) (.slice none 0 0) (.slice none 0 0) (.slice none 0 0)):=oh
  ⟨(((zA.refl _ w).alloc _).alloc _).alloc _,hL,hb,by
   have:=(zL.new (w.alloc gB) #[bv,.int .i64 0,.bool false] 257).alloc (.cells #[.bool true,.slice none 0 0,.slice none 0 0,.slice none 0 0] 118);simpa using this,by
   have:=zL.new ((w.alloc gB).alloc (.cells #[bv,.int .i64 0,.bool false] 257)) #[.bool true,.slice none 0 0,.slice none 0 0,.slice none 0 0] 118;simpa using this,zU.nil _ _ _ _ _ _,zU.nil _ _ _ _ _ _,zU.nil _ _ _ _ _ _,((zL.new w _ _).alloc _).alloc _⟩
 have HB:=oh hb;obtain⟨mny,r0,hx⟩:∃n r1,vI b ⟨0,false⟩ 2=(n,r1):=⟨_,_,rfl⟩;have hmn:mny<=65535:=by have:=zIu b ⟨0,false⟩;rw[hx] at this;exact this
 have hr0:r0.at_=2:=by have:=zCD b ⟨0,false⟩ 2;rw[hx] at this;exact this
 have HR0:=oh hr0;have HX:=oh hx;have HND:Hid (jZ true b=(⟨true,(qB b mny r0 []).1,[],[]⟩,(qB b mny r0 []).2)):=oh (by unfold jZ;simp only[hx,t8]);have H10:=oh h1000;obtain⟨ab,cb,rfl,hb1,hb2,hb3,_⟩:=hb;clear hL hx hr0;unfold maxLen at hb2
 go_enter Tryz.func116, Tryz.ntmps116
 go_wp2_with fail;refine (HS0.out.num 2 (.inr (.inl rfl)) (Int.le_refl 0) (show (0:Int)<=1000000000000 by omega) mny HX.out).mono ?_;rintro e w1 ⟨rfl,hS1,_⟩;have HS1:=oh hS1;clear hS1;go_wp2_with fail;go_loopg [9] mny (λm i wr=>∃(k:Nat) (at_:Int) (bd:Bool) (es:List zI) (ve:Value),k+m=mny/\i=.int .i64 k/\Hid (qB b m ⟨at_,bd⟩ es=qB b mny r0 [])/\Hid (vT F ad w wr true (.slice ab b.length cb) b ⟨at_,bd⟩ es [] [] ve (.slice none 0 0) (.slice none 0 0) ve (.slice none 0 0) (.slice none 0 0))/\es.length<=k/\0<=at_/\at_<=1020+10 * (k:Int))
 case atStart=>exact⟨0,r0.at_,r0.bad,[],_,by omega,rfl,oh rfl,HS1,uJ 0,by have:=HR0.out;omega,by have:=HR0.out;omega⟩
 case round =>
  obtain⟨k,at_,bd,es,ve,hkm,rfl,HZ,HS,hes,ha0,ha1⟩:=hrel;have b2:=HS.out.box.cell (o:=2) (v:=.bool bd) rfl;by_cases hgo:k<mny/\bd=false
  .obtain⟨hlt,rfl⟩:=hgo;obtain⟨m,rfl⟩:∃m,gk=m+1:=⟨gk-1,by omega⟩;have hat:=zK2 b ⟨at_,false⟩ H10.out (k:=k) ha0 ha1;have HZ2:Hid (qB b m (vR b ⟨at_,false⟩).2 (es++[(vR b ⟨at_,false⟩).1])=qB b mny r0 []):=oh (by
    have:=HZ.out;rw[qB] at this;simpa using this)
   clear HZ;obtain⟨key,r1,hk⟩:∃s r1,jK b ⟨at_,false⟩=(s,r1):=⟨_,_,rfl⟩;have hk1:=zEZ b ⟨at_,false⟩;rw[hk] at hk1;obtain⟨q,r2,hq⟩:∃n r2,vI b r1 1=(n,r2):=⟨_,_,rfl⟩;have hq1:=zDg b r1 1 (.inl rfl);rw[hq] at hq1;simp only at hk1 hq1;have HK:=oh hk;have HQ:=oh hq;have HR1:Hid (0<=r1.at_/\r1.at_<=1000000/\0<=r2.at_/\r2.at_<=1000000):=oh (by have:=H10.out;omega);have HQ1:=oh hq1.1;clear hk hq hk1 hq1;go_wp2_with fail;refine (HS.out.text ha0 (show at_<=1000000000000 by omega) key HK.out).mono ?_;rintro e w2 ⟨rfl,hS2,_⟩;have HS2:=oh hS2;clear hS2;go_wp2_with fail;have HS3:=oh (HS2.out.step ((zA.refl _ w2).alloc (.cells #[.string key,.string ⟨#[]⟩,.int .i64 0,.int .i64 0] 141)));refine (HS3.out.num 1 (.inl rfl) HR1.out.1 (by have:=HR1.out;omega) q HQ.out).mono ?_;rintro e w3 ⟨rfl,hS4,hm3⟩;have hB3:=(zL.new w2 #[.string key,.string ⟨#[]⟩,.int .i64 0,.int .i64 0] 141).mods hm3 (by have:=HS2.out.base;omega);have HVX:Hid (ve.ownBlock≠some w2.heap.size):=oh (λe=>by have:=HS2.out.oe.lt _ e;omega);have HB3:=oh hB3;have HS4:=oh hS4;have hz2:=HS2.out.base;clear hB3 hS4 hm3;by_cases hq0:q=0
   .obtain⟨v,r3,hv⟩:∃s r3,jK b r2=(s,r3):=⟨_,_,rfl⟩;have HV:=oh hv;have HRE:Hid (vR b ⟨at_,false⟩=(⟨key,v,0,0⟩,r3)):=oh (by unfold vR;simp only[HK.out,HQ.out,if_pos hq0,HV.out]);clear hv;subst hq0;go_wp2_with fail;refine (HS4.out.text HR1.out.2.2.1 (by have:=HR1.out;omega) v HV.out).mono ?_;rintro e w4 ⟨rfl,hS5,hm4⟩;have hB4:=HB3.out.mods hm4 (by omega);have e1:=hB4.cell (o:=1) (v:=.string ⟨#[]⟩) rfl;have ef:=hB4.frozen;have HS5:Hid (vT F ad w (w4.setCell ⟨w2.heap.size,1,none⟩ (.string v)) true (.slice ab b.length cb) b r3 es [] [] ve (.slice none 0 0) (.slice none 0 0) ve (.slice none 0 0) (.slice none 0 0)):=oh
     (hS5.far (X:=w2.heap.size) hz2 (zA.at _ w4 _ 1 _ rfl) HVX.out (by simp[Value.ownBlock]) (by simp[Value.ownBlock]))
    have hB5:zL (w4.setCell ⟨w2.heap.size,1,none⟩ (.string v)) w2.heap.size #[.string key,.string v,.int .i64 0,.int .i64 0] 141:=by simpa using hB4.set 1 (.string v)
    have HB5:=oh hB5;clear hS5 hm4 hB4 hB5;have x0:=HB5.out.cell (o:=0) (v:=.string key) rfl;have x1:=HB5.out.cell (o:=1) (v:=.string v) rfl;have x2:=HB5.out.cell (o:=2) (v:=.int .i64 0) rfl;have x3:=HB5.out.cell (o:=3) (v:=.int .i64 0) rfl;have n1:=HS5.out.nd.cell (o:=1) (v:=ve) rfl;go_wp2_with (at_builtin;go_loud (refine yH Tryz.elE yU rfl _ _ rfl (w.heap.size+3) ve _ es [⟨key,v,0,0⟩] rfl rfl (HS5.out.oe.ext ((zA.refl _ _).alloc _)) (Sl.one (F:=NoF) (zK (by simp)) (λf=>f)) (by simp only[uD,uE];omega) (by have:=HS5.out.base;simp at this ⊢;omega) (λf=>f) ?_;simp only[uD,uE,uR];intro a2 c2 w5 hO5 hm5 hat5;have hS6:=(HS5.out.step ((zA.refl _ _).alloc _)).appE hm5 hO5;have z1:=hS6.nd.cell (o:=1) (v:=ve) rfl;have zf:=hS6.nd.frozen 1));have HS7:Hid (vT F ad w (w5.setCell ⟨w.heap.size+1+1,1,none⟩ (.slice a2 (es.length+1) c2)) true (.slice ab b.length cb) b r3 (es++[⟨key,v,0,0⟩]) [] [] (.slice a2 (es.length+1) c2) (.slice none 0 0) (.slice none 0 0) (.slice a2 (es.length+1) c2) (.slice none 0 0) (.slice none 0 0)):=oh
     (hS6.put 1 (.slice a2 (es.length+1) c2) (.slice a2 (es.length+1) c2) (.slice none 0 0) (.slice none 0 0) rfl)
    clear hS6 hO5 hm5 hat5;rw[HRE.out] at hat;simp only at hat;have HAT:=oh hat;have HZ3:Hid (qB b m r3 (es++[⟨key,v,0,0⟩])=qB b mny r0 []):=oh (by have:=HZ2.out;rw[HRE.out] at this;exact this);clear hat;go_wp2_with fail;go_roundg m
    case measure=>omega
    case rel=>exact⟨k+1,r3.at_,r3.bad,es++[⟨key,v,0,0⟩],_,by omega,by go_num,HZ3,HS7,by rw[uC,uD,uE];omega,HAT.out.1,HAT.out.2⟩
   .have hqb:((q:Int) == 0)=false:=by rw[uV];omega
    obtain⟨c,r3,hc⟩:∃n r3,vI b r2 4=(n,r3):=⟨_,_,rfl⟩;obtain⟨z,r4,hz⟩:∃n r4,vI b r3 4=(n,r4):=⟨_,_,rfl⟩;have hc1:=zDg b r2 4 (.inr (.inr rfl));rw[hc] at hc1;have HC:=oh hc;have HZZ:=oh hz;have HR3:Hid (0<=r3.at_/\r3.at_<=10000000):=oh (by have:=HR1.out;simp only at hc1;omega);have HRE:Hid (vR b ⟨at_,false⟩=(⟨key,⟨#[]⟩,(c:Int),(z:Int)⟩,r4)):=oh (by unfold vR;simp only[HK.out,HQ.out,if_neg hq0,HC.out,HZZ.out]);clear hc hz hc1 hq0;go_wp2_with fail;refine (HS4.out.num 4 (.inr (.inr rfl)) HR1.out.2.2.1 (by have:=HR1.out;omega) c HC.out).mono ?_;rintro e w4 ⟨rfl,hS5,hm4⟩;have hB4:=HB3.out.mods hm4 (by omega);have HB4:=oh hB4;have HS5:=oh hS5;clear hB4 hS5 hm4;go_wp2_with fail;refine (HS5.out.num 4 (.inr (.inr rfl)) HR3.out.1 (by have:=HR3.out;omega) z HZZ.out).mono ?_;rintro e w4b ⟨rfl,hS5,hm4⟩;have hB4:=HB4.out.mods hm4 (by omega);have e2:=hB4.cell (o:=2) (v:=.int .i64 0) rfl;have e3:=hB4.cell (o:=3) (v:=.int .i64 0) rfl;have ef:=hB4.frozen;have HS6:Hid (vT F ad w ((w4b.setCell ⟨w2.heap.size,2,none⟩ (.int .i64 (c:Int))).setCell ⟨w2.heap.size,3,none⟩ (.int .i64 (z:Int))) true (.slice ab b.length cb) b r4 es [] [] ve (.slice none 0 0) (.slice none 0 0) ve (.slice none 0 0) (.slice none 0 0)):=oh
     (hS5.far (X:=w2.heap.size) hz2 ((zA.at (λk=>k=w2.heap.size) w4b _ 2 _ rfl).trans (zA.at (λk=>k=w2.heap.size) _ _ 3 _ rfl)) HVX.out (by simp[Value.ownBlock]) (by simp[Value.ownBlock]))
    have hB5:zL ((w4b.setCell ⟨w2.heap.size,2,none⟩ (.int .i64 (c:Int))).setCell ⟨w2.heap.size,3,none⟩ (.int .i64 (z:Int))) w2.heap.size #[.string key,.string ⟨#[]⟩,.int .i64 (c:Int),.int .i64 (z:Int)] 141:=by simpa using (hB4.set 2 (.int .i64 (c:Int))).set 3 (.int .i64 (z:Int))
    have HB5:=oh hB5;clear hS5 hm4 hB4 hB5;have x0:=HB5.out.cell (o:=0) (v:=.string key) rfl;have x1:=HB5.out.cell (o:=1) (v:=.string ⟨#[]⟩) rfl;have x2:=HB5.out.cell (o:=2) (v:=.int .i64 (c:Int)) rfl;have x3:=HB5.out.cell (o:=3) (v:=.int .i64 (z:Int)) rfl;have n1:=HS6.out.nd.cell (o:=1) (v:=ve) rfl;go_wp2_with (at_builtin;go_loud (refine yH Tryz.elE yU rfl _ _ rfl (w.heap.size+3) ve _ es [⟨key,⟨#[]⟩,(c:Int),(z:Int)⟩] rfl rfl (HS6.out.oe.ext ((zA.refl _ _).alloc _)) (Sl.one (F:=NoF) (zK (by simp)) (λf=>f)) (by simp only[uD,uE];omega) (by have:=HS6.out.base;simp at this ⊢;omega) (λf=>f) ?_;simp only[uD,uE,uR];intro a2 c2 w5 hO5 hm5 hat5;have hS6:=(HS6.out.step ((zA.refl _ _).alloc _)).appE hm5 hO5;have z1:=hS6.nd.cell (o:=1) (v:=ve) rfl;have zf:=hS6.nd.frozen 1));have HS7:Hid (vT F ad w (w5.setCell ⟨w.heap.size+1+1,1,none⟩ (.slice a2 (es.length+1) c2)) true (.slice ab b.length cb) b r4 (es++[⟨key,⟨#[]⟩,(c:Int),(z:Int)⟩]) [] [] (.slice a2 (es.length+1) c2) (.slice none 0 0) (.slice none 0 0) (.slice a2 (es.length+1) c2) (.slice none 0 0) (.slice none 0 0)):=oh
     (hS6.put 1 (.slice a2 (es.length+1) c2) (.slice a2 (es.length+1) c2) (.slice none 0 0) (.slice none 0 0) rfl)
    clear hS6 hO5 hm5 hat5;rw[HRE.out] at hat;simp only at hat;have HAT:=oh hat;have HZ3:Hid (qB b m r4 (es++[⟨key,⟨#[]⟩,(c:Int),(z:Int)⟩])=qB b mny r0 []):=oh (by have:=HZ2.out;rw[HRE.out] at this;exact this);clear hat;go_wp2_with fail;go_roundg m
    case measure=>omega
    case rel=>exact⟨k+1,r4.at_,r4.bad,es++[⟨key,⟨#[]⟩,(c:Int),(z:Int)⟩],_,by omega,by go_num,HZ3,HS7,by rw[uC,uD,uE];omega,HAT.out.1,HAT.out.2⟩
  .have HEND:Hid (qB b mny r0 []=(es,⟨at_,bd⟩)):=oh (by
    rw[<- HZ.out];cases gk with
    | zero=>rfl
    | succ m =>
     rw[qB];have:bd=true:=by
      cases bd
      .exact absurd ⟨by omega,rfl⟩ hgo
      .rfl
     rw[this];rfl)
   have HNN:Hid (jZ true b=(⟨true,es,[],[]⟩,⟨at_,bd⟩)):=oh (by rw[HND.out,HEND.out]);have HGN:Hid (zD2 true b=if bd=false/\zM ⟨true,es,[],[]⟩=true/\zZ ⟨true,es,[],[]⟩=b then some ⟨true,es,[],[]⟩ else none):=oh (by unfold zD2;simp only[HNN.out]);obtain⟨pa,pc,rfl,hpc1,hpc2⟩:=HS.out.oe.form;unfold maxLen at hpc2;have hlen:zM ⟨true,es,[],[]⟩=true->(zZ ⟨true,es,[],[]⟩).length<=100000:=λhr=>by
    have:=zFj true b H10.out;rw[HNN.out] at this;exact this hr
   have HPUT:=oh (zEE (F:=GB F w) HS.out.env ⟨true,es,[],[]⟩ (.slice pa es.length pc) (.slice none 0 0) (.slice none 0 0) (HS.out.slE HS.out.gb (by omega)) (Sl.nil _ _ _ _) (Sl.nil _ _ _ _) hlen);have n0:=HS.out.nd.cell (o:=0) (v:=.bool true) rfl;have n1:=HS.out.nd.cell (o:=1) (v:=.slice pa es.length pc) rfl;have n2:=HS.out.nd.cell (o:=2) (v:=.slice none 0 0) rfl;have n3:=HS.out.nd.cell (o:=3) (v:=.slice none 0 0) rfl;have hcase:(k<mny/\bd=true)\/(mny<=k/\bd=true)\/(mny<=k/\bd=false):=by
    by_cases h1:k<mny
    .cases bd
     .exact absurd ⟨h1,rfl⟩ hgo
     .exact .inl ⟨h1,rfl⟩
    .cases bd
     .exact .inr (.inr ⟨by omega,rfl⟩)
     .exact .inr (.inl ⟨by omega,rfl⟩)
   have hlenN:=hlen;have HLEN:=oh hlen;clear HZ HEND hlen hgo hlenN;rcases hcase with ⟨hlt,rfl⟩|⟨hlt,rfl⟩|⟨hlt,rfl⟩
   rotate_left 2;focus
    have hlen:=HLEN.out;go_wp2_with fail;refine (HPUT.out).mono ?_;rintro e w6 hP;obtain⟨hx6,hP⟩:=hP;have HS6:=oh (HS.out.step hx6);clear hx6;rcases hP with ⟨hrt,a6,c6,rfl,hO6⟩|⟨hrt,f6,rfl,hE6⟩
    focus
     have HRT:=oh hrt;have HSL6:=oh (zU.sl (F:=NoF) hO6 jI.len (by have:=hlen hrt;omega));clear hrt hO6 hlen;have b2b:=HS6.out.box.cell (o:=2) (v:=.bool false) rfl;go_wp2_with fail;refine (zDT (F:=NoF) (G:=F) _ _ _ b HSL6.out (HB.out.ext HS6.out.ext)).mono ?_;rintro e w8 ⟨rfl,hm8⟩;have HS8:=oh (HS6.out.step hm8);clear hm8;by_cases heq:zZ ⟨true,es,[],[]⟩=b
     .rw[wC heq];have HEQ:=oh heq;clear heq;have n0:=HS8.out.nd.cell (o:=0) (v:=.bool true) rfl;have n1:=HS8.out.nd.cell (o:=1) (v:=.slice pa es.length pc) rfl;have n2:=HS8.out.nd.cell (o:=2) (v:=.slice none 0 0) rfl;have n3:=HS8.out.nd.cell (o:=3) (v:=.slice none 0 0) rfl;have r0:=HS8.out.res.cell (o:=0) (v:=.bool false) rfl;have r1:=HS8.out.res.cell (o:=1) (v:=.slice none 0 0) rfl;have r2:=HS8.out.res.cell (o:=2) (v:=.slice none 0 0) rfl;have r3:=HS8.out.res.cell (o:=3) (v:=.slice none 0 0) rfl;have rf:=HS8.out.res.frozen;have HRB:=oh (HS8.out.res.set4 (.bool true) (.slice pa es.length pc) (.slice none 0 0) (.slice none 0 0));have HMR:=oh (zA.set4 (F:=λk=>k=w.heap.size) (zA.refl _ w8) (.inr rfl) (.bool true) (.slice pa es.length pc) (.slice none 0 0) (.slice none 0 0));go_wp2_with fail;refine bodyPost_ret (zG rfl _ _ w.heap.size 118 #[.bool true,.slice pa es.length pc,.slice none 0 0,.slice none 0 0] _ rfl HRB.out Tryz.underlying118 rfl Tryz.nodeSize) rfl ?_;refine⟨zA.set4 HS8.out.ext (.inl (uJ _)) _ _ _ _,.inl ⟨⟨true,es,[],[]⟩,.slice pa es.length pc,.slice none 0 0,.slice none 0 0,by rw[HGN.out];exact if_pos (by first|exact⟨rfl,HRT.out,HEQ.out⟩|exact⟨trivial,HRT.out,HEQ.out⟩),rfl,?_,?_,?_⟩⟩
      .exact (HS8.out.slE (G:=GB F w) HS8.out.gb (by omega)).step (HMR.out.mono (λk (hk:k=w.heap.size)=>.inr ⟨by omega,by omega⟩)) (λk _ hn hf=>hn (.inl hf))
      .exact (HS8.out.slK (G:=GB F w) HS8.out.gb (by simp)).step (HMR.out.mono (λk (hk:k=w.heap.size)=>.inr ⟨by omega,by omega⟩)) (λk _ hn hf=>hn (.inl hf))
      .exact (HS8.out.slI (G:=GB F w) HS8.out.gb (by simp)).step (HMR.out.mono (λk (hk:k=w.heap.size)=>.inr ⟨by omega,by omega⟩)) (λk _ hn hf=>hn (.inl hf))
     rw[uX heq];have HEQ:=oh heq;clear heq;have HS6:=HS8;have b2c:=HS6.out.box.cell (o:=2) (v:=.bool false) rfl;have HNE:Hid (zD2 true b=none):=oh (by rw[HGN.out];exact if_neg (λh=>HEQ.out h.2.2))
    rotate_left;focus
     have HRT:=oh hrt;clear hrt hE6;have b2c:=HS6.out.box.cell (o:=2) (v:=.bool false) rfl;have HNE:Hid (zD2 true b=none):=oh (by rw[HGN.out];exact if_neg (λh=>by have:=h.2.1;rw[HRT.out] at this;cases this))
   rotate_left 2;iterate 2
    focus
     go_wp2_with fail;refine (HPUT.out).mono ?_;rintro e w6 hP;obtain⟨hx6,hP⟩:=hP;have HS6:=oh (HS.out.step hx6);clear hx6;rcases hP with ⟨_,a6,c6,rfl,_⟩|⟨_,f6,rfl,_⟩
     all_goals
      have b2c:=HS6.out.box.cell (o:=2) (v:=.bool true) rfl;have HNE:Hid (zD2 true b=none):=oh (by rw[HGN.out];exact if_neg (λh=>by have:=h.1;cases this))
    rotate_left 2
   all_goals
    have g1:=HS6.out.env.c1;go_wp2_with fail;refine (qG HS6.out.env _ _ [] 1 (.sent 1 (by decide) (by decide))).mono ?_;rintro e w7 ⟨f7,rfl,hE7,hm7⟩;have hS7:=HS6.out.step hm7;have r0:=hS7.res.cell (o:=0) (v:=.bool false) rfl;have r1:=hS7.res.cell (o:=1) (v:=.slice none 0 0) rfl;have r2:=hS7.res.cell (o:=2) (v:=.slice none 0 0) rfl;have r3:=hS7.res.cell (o:=3) (v:=.slice none 0 0) rfl;have rf:=hS7.res.frozen;have HS7:=oh hS7;have HE7:=oh hE7;have HRB:=oh (hS7.res.set4 (.bool false) (.slice none 0 0) (.slice none 0 0) (.slice none 0 0));clear hS7 hE7 hm7;go_wp2_with fail;refine bodyPost_ret (zG rfl _ _ w.heap.size 118 gB _ rfl HRB.out Tryz.underlying118 rfl Tryz.nodeSize) rfl ?_;exact⟨zA.set4 HS7.out.ext (.inl (uJ _)) _ _ _ _,.inr ⟨HNE.out,f7,rfl,HE7.out.step (zA.set4 (zA.refl _ w7) (.inr (.inr ⟨uJ _,by omega⟩)) _ _ _ _) (λk _ hn hf=>hn (.inl hf))⟩⟩
end
end
section
open Go.RowKit
def jV(p:yN):zF ⊕ Err :=
 if p.kind=3\/p.kind=2 then (match zD2 (decide (p.kind=3)) p.body with|some n=>.inl n|none=>.inr ([zBs p.id],5)) else .inr ([zBs p.id],5)
def GA.load(G:GA)(id:Int):zF ⊕ Err :=
 match G.get id with
 | .inr (l,k)=>.inr (-1 :: l,k)
 | .inl p=>match jV p with
  | .inl n=>.inl n
  | .inr (l,k)=>.inr (-1 :: l,k)
def zDh(G:GA)(e:zI):ByteArray ⊕ Err :=
 if e.chain=0 then .inl e.value else match jY G e.chain e.size with
  | none=>.inl ⟨((yY G e.size.toNat e.chain e.size).1.flatMap (·.2)).toArray⟩
  | some (l,k)=>.inr (-1 :: l,k)
def zFk(G:GA)(e:zI):Prop:=e.chain≠0->25<=e.size->e.size<=4096->zAj G e.size.toNat e.chain e.size
theorem zC2{p:yN}{n:zF}(h:jV p=.inl n):zM n=true/\n.leaf=decide (p.kind=3):=by
 unfold jV at h;split at h
 .split at h
  .rename_i h1;injection h with h;subst h;unfold zD2 at h1;simp only at h1;split at h1
   .rename_i h2;injection h1 with h1;subst h1;refine⟨h2.2.1,?_⟩;unfold jZ;simp only;split
    .rename_i h3;simpa using h3.symm
    .rename_i h3;simpa using h3
   .cases h1
  .cases h
 .cases h
theorem GA.load_right{G:GA}{id:Int}{n:zF}(h:G.load id=.inl n):zM n=true:=by
 unfold GA.load at h;split at h
 .cases h
 .split at h
  .rename_i h1;injection h with h;subst h;exact (zC2 h1).1
  .cases h
def GA.node(G:GA)(id:Nat):Option zF:=if id<G.blocks then (match G.view id with
 | some (.inl p)=>(match jV p with | .inl n=>some n | .inr _=>none)
 | _=>none) else none
theorem GA.node_load{G:GA}{id:Nat}{n:zF}(h:G.node id=some n):G.knows (id:Int)/\G.load (id:Int)=.inl n:=by
 unfold GA.node at h;split at h
 .rename_i hlt;split at h
  .rename_i p hp;refine⟨λ_=>⟨_,by rw[uL];exact hp⟩,?_⟩;unfold GA.load;rw[zFg hlt hp];simp only;split at h
   .rename_i h1;injection h with h;subst h;rw[h1]
   .cases h
  .cases h
 .cases h
def GA.R(G:GA)(c s:Int):Option ByteArray:=match jY G c s with
 | none=>some ⟨((yY G s.toNat c s).1.flatMap (·.2)).toArray⟩
 | some _=>none
def GA.total(G:GA):Prop:=∀i,i<G.blocks->∃r,G.view i=some r
theorem GA.total.knows{G:GA}(h:G.total)(id:Int):G.knows id:=λhc=>by
 unfold GA.check at hc;split at hc
 .cases hc
 .exact h _ (by omega)
theorem GA.total.walk{G:GA}(h:G.total):∀(f:Nat) (id n:Int),zAj G f id n
 | 0,_,_=>trivial
 | f+1,id,n=>by
  rw[zAj];exact λ_=>⟨h.knows id,λx _ _=>GA.total.walk h f _ _⟩
structure zP2(R:Int->Int->Option ByteArray)(m:zF)(p:List zE):Prop where
 leaf:m.leaf=true
 right:zM m=true
 len:m.entries.length=p.length
 tells:∀(i:Nat) (e:zI) (x:zE),m.entries[i]? = some e->p[i]? = some x->e.key=x.1/\zE4 R e=some x.2
noncomputable def GA.R2 (G:GA) (c s:Int):Option ByteArray:=open Classical in if zAj G s.toNat c s then G.R c s else none
theorem GA.R2_some{G:GA}{c s:Int}{v:ByteArray}(h:G.R2 c s=some v):zAj G s.toNat c s/\G.R c s=some v:=by
 unfold GA.R2 at h;split at h
 .rename_i hw;exact⟨hw,h⟩
 .cases h
theorem zGp{G:GA}{e:zI}{v:ByteArray}(h:zE4 G.R2 e=some v):zDh G e=.inl v/\zFk G e:=by
 unfold zE4 at h;unfold zDh zFk;by_cases hc:e.chain=0
 .rw[if_pos hc] at h ⊢;exact⟨by rw[Option.some.inj h],λhn=>absurd hc hn⟩
 .rw[if_neg hc] at h ⊢;obtain⟨h1,h2⟩:=GA.R2_some h;refine⟨?_,λ_ _ _=>h1⟩;unfold GA.R at h2;split at h2
  .rename_i h3;rw[h3];simp only;rw[Option.some.inj h2]
  .cases h2
theorem zCa(k:ByteArray):inB e0 none k:=by
 refine⟨?_,λh hh=>by cases hh⟩;unfold qJ;have:e0.toList=[]:=by simp[ByteArray.toList_eq]
 rw[this];cases k.toList <;> rfl
def zRD(G:GA)(root d:Nat)(l:List zE):Prop :=
 (l=[]/\root=0/\d=0)\/(2<=root/\root<256/\d<=16/\Tr G.node G.R2 e0 none root d l)
structure WkS where
 pages:List Int
 keys:List ByteArray
 depth:Nat
def WkS.last(s:WkS):ByteArray:=s.keys.getLastD e0
structure zAW where
 id:Int
 depth:Nat
 lo:ByteArray
 hi:ByteArray
def zCE(id:Int):Err:=([zBs id],5)
def zFC(s:WkS)(id:Int):WkS ⊕ Err:=if id∈s.pages then .inr (zCE id) else .inl { s with pages:=s.pages++[id] }
def zAb(G:GA)(gen:Nat)(id:Int):yN ⊕ Err:=match G.get id with
 | .inr e=>.inr e
 | .inl p=>if gen<p.gen then .inr (zCE id) else .inl p
def zC3(G:GA)(gen:Nat):List Int->WkS->WkS ⊕ Err
 | [],s=>.inl s
 | id :: r,s=>match zFC s id with
  | .inr e=>.inr e
  | .inl s1=>match zAb G gen id with
   | .inr e=>.inr e
   | .inl _=>zC3 G gen r s1
def zAc(G:GA)(gen:Nat)(e:zI)(s:WkS):WkS ⊕ Err :=
 if e.chain=0 then .inl s else match jY G e.chain e.size with
  | some er=>.inr er
  | none=>zC3 G gen ((yY G e.size.toNat e.chain e.size).1.map (·.1)) s
def zGH(a:zAW)(s:WkS)(e:zI):Bool:=leS e.key s.last || qJ e.key a.lo || (decide (a.hi≠e0) && leS a.hi e.key)
def zBq(G:GA)(gen:Nat)(a:zAW):List zI->WkS->WkS ⊕ Err
 | [],s=>.inl s
 | e :: r,s=>if zGH a s e=true then .inr (zCE a.id) else
  match zAc G gen e { s with keys:=s.keys++[e.key] } with
  | .inr er=>.inr er
  | .inl s1=>zBq G gen a r s1
def zAk(a:zAW)(s:WkS):WkS:=if s.depth=0 then { s with depth:=a.depth } else s
def zDv(G:GA)(gen:Nat)(n:zF)(a:zAW)(s:WkS):WkS ⊕ Err :=
 if a.depth≠(zAk a s).depth\/(n.entries=[]/\1<a.depth) then .inr (zCE a.id) else zBq G gen a n.entries (zAk a s)
def vD(n:zF)(a:zAW)(i:Nat)(k:Int):zAW :=
 ⟨k,a.depth+1,if i=0 then a.lo else n.keys.getD (i-1) e0,if i<n.keys.length then n.keys.getD i e0 else a.hi⟩
def zFD(a b:zAW):Bool:=qJ b.lo a.lo || (decide (a.hi≠e0) && qJ a.hi b.hi)
def zBg(rec_:zAW->WkS->WkS ⊕ Err)(n:zF)(a:zAW):List Int->Nat->WkS->WkS ⊕ Err
 | [],_,s=>.inl s
 | k :: r,i,s=>if zFD a (vD n a i k)=true then .inr (zCE a.id) else
  match rec_ (vD n a i k) s with
  | .inr e=>.inr e
  | .inl s1=>zBg rec_ n a r (i+1) s1
def zAB(G:GA)(gen:Nat):Nat->zAW->WkS->WkS ⊕ Err
 | 0,a,_=>.inr (zCE a.id)
 | f+1,a,s=>match zFC s a.id with
  | .inr e=>.inr e
  | .inl s1=>match zAb G gen a.id with
   | .inr e=>.inr e
   | .inl p=>match jV p with
    | .inr e=>.inr e
    | .inl n=>if n.leaf=true then zDv G gen n a s1 else zBg (zAB G gen f) n a n.kids 0 s1
def wk0:WkS:=⟨[],[],0⟩
def zHg(G:GA)(gen:Nat)(root:Int):WkS ⊕ Err :=
 if root=0 then .inl wk0 else match zAB G gen 16 ⟨root,1,e0,e0⟩ wk0 with
  | .inr (l,k)=>.inr (-1 :: l,k)
  | .inl s=>.inl s
def iL(l:List Nat):List Int:=l.map (λ(i:Nat)=>(i:Int))
theorem zHh(a b:List Nat):iL (a++b)=iL a++iL b:=wF
theorem zNX{a b:ByteArray}(h:qJ a b=true):leS b a=false:=by
 cases hb:leS b a with
 | false=>rfl
 | true =>
  rcases (zJb b a).1 hb with k|k
  .rw[zBR h] at k;cases k
  .rw[k,jJ] at h;cases h
section
variable {G:GA}{ps:List yN}{gen g:Nat}
theorem zP3:∀(ids:List Nat),(∀i∈ids,∃p,zAb G gen (i:Int)=.inl p)->∀(st:WkS),(st.pages++iL ids).Nodup->zC3 G gen (iL ids) st=.inl { st with pages:=st.pages++iL ids }
 | [],_,st,_=>by simp[iL,zC3]
 | i :: ids,hy,st,hn=>by
  have hnot:(i:Int) ∉ st.pages:=λhm=>by
   rw[wD] at hn;exact hn.2.2 _ hm (i:Int) (by simp[iL]) rfl
  obtain⟨p,hp⟩:=hy i uF;have ih:=zP3 ids (λj hj=>hy j (uI _ hj)) { st with pages:=st.pages++[(i:Int)] } (by simpa[iL] using hn);show zC3 G gen ((i:Int) :: iL ids) st=_;rw[zC3];unfold zFC;rw[if_neg hnot];simp only[hp];rw[ih];simp[iL]
theorem zOk(st:WkS)(key:ByteArray)(ps:List Int):({ st with pages:=ps,keys:=st.keys++[key] }:WkS).last=key:=by simp[WkS.last]
theorem zNY{rec_:zAW->WkS->WkS ⊕ Err}{n:zF}{a:zAW}{Inv:Nat->WkS->Prop}(h:∀(i:Nat) (k:Int) (st:WkS),n.kids[i]? = some k->Inv i st->zFD a (vD n a i k)=false/\∃s1,rec_ (vD n a i k) st=.inl s1/\Inv (i+1) s1) :
  ∀(ks:List Int) (i:Nat) (st:WkS),n.kids.drop i=ks->i+ks.length=n.kids.length->Inv i st->∃s',zBg rec_ n a ks i st=.inl s'/\Inv n.kids.length s'
 | [],i,st,hd,hl,hI=>⟨st,rfl,by simp at hl;rw[<- hl];exact hI⟩
 | k :: ks,i,st,hd,hl,hI=>by
  have hki:n.kids[i]? = some k:=by
   have:=rH (xs:=n.kids) (i:=i) (j:=0);rw[hd] at this;simpa using this.symm
  obtain⟨h1,s1,h2,h3⟩:=h i k st hki hI;have hd2:n.kids.drop (i+1)=ks:=by
   rw[<- pY,hd];rfl
  obtain⟨s',h4,h5⟩:=zNY h ks (i+1) s1 hd2 (by simp at hl;omega) h3;refine⟨s',?_,h5⟩;rw[zBg,h1,if_neg (by simp),h2];exact h4
def hiR(hi:Option ByteArray)(h:ByteArray):Prop:=(hi=none/\h=e0)\/(hi=some h/\h≠e0)
theorem zNZ{s:ByteArray}(h:qC s=true):s≠e0:=λe=>by
 have:=(vC s).1 h;rw[e] at this;have:(e0:ByteArray).size=0:=rfl;omega
theorem zQt{ks:List ByteArray}{l1:List zE}{x:ByteArray}(h1:qJ (ks.getLastD e0) x=true)(h2:∀y∈l1,qJ y.1 x=true):qJ ((ks++l1.map (·.1)).getLastD e0) x=true:=by
 rcases List.eq_nil_or_concat l1 with rfl|⟨l2,y,rfl⟩
 .simpa using h1
 .have:=h2 y (by simp);simpa using this
theorem zK3{n:zF}(h:zM n=true)(hl:n.leaf=false):∀s∈n.keys,qC s=true:=by
 unfold zM at h;rw[if_neg (by rw[hl];simp)] at h;simp only[uK,tD] at h;exact h.1.2
theorem zMg{n:zF}{a:zAW}{hi:Option ByteArray}(hr:zM n=true)(hl:n.leaf=false)(hh:hiR hi a.hi)(hs:∀s∈n.keys,inB a.lo hi s){i:Nat}{k:Int}(hk:n.kids[i]? = some k) :
  zFD a (vD n a i k)=false/\(vD n a i k).lo=zDF a.lo n.keys i/\hiR (zDx hi n.keys i) (vD n a i k).hi:=by
 have hkl:=(jC hr hl).2.1;have hik:=(uB.1 hk).1;have hlo:(vD n a i k).lo=zDF a.lo n.keys i:=by
  unfold vD zDF;by_cases h0:i=0
  .rw[if_pos h0,if_pos h0]
  .rw[if_neg h0,if_neg h0];have:i-1<n.keys.length:=by omega
   simp[List.getD,this]
 have hhi:hiR (zDx hi n.keys i) (vD n a i k).hi:=by
  unfold vD zDx;by_cases h0:i<n.keys.length
  .simp only[if_pos h0,uA h0];refine .inr ⟨by simp[List.getD,h0],?_⟩;simp only[List.getD,uA h0,Option.getD_some];exact zNZ (zK3 hr hl _ (wH h0))
  .simp only[if_neg h0,rQ (by omega:n.keys.length<=i)];exact hh
 refine⟨?_,hlo,hhi⟩;unfold zFD;have h1:qJ (vD n a i k).lo a.lo=false:=by
  rw[hlo];unfold zDF;by_cases h0:i=0
  .rw[if_pos h0];exact jJ _
  .rw[if_neg h0];have hlt:i-1<n.keys.length:=by omega
   have e:n.keys.getD (i-1) a.lo=n.keys[i-1]:=by simp[List.getD,hlt]
   rw[e];exact (hs _ (wH hlt)).1
 rw[h1];by_cases hz:a.hi=e0
 .simp[hz]
 .have h2:qJ a.hi (vD n a i k).hi=false:=by
   unfold vD;by_cases h0:i<n.keys.length
   .simp only[if_pos h0];have e:n.keys.getD i e0=n.keys[i]:=by simp[List.getD,h0]
    rw[e];rcases hh with ⟨_,h3⟩|⟨h3,_⟩
    .exact absurd h3 hz
    .exact zBR ((hs _ (wH h0)).2 _ h3)
   .simp only[if_neg h0];exact jJ _
  rw[h2];simp
end
variable {G:GA}{gen:Nat}{st st1:WkS}{id:Int}{p:yN}
theorem zCi:∀(n:Nat) (l:List Int),l.Nodup->(∀i∈l,0<=i/\i<(n:Int))->l.length<=n
 | 0,[],_,_=>uJ _
 | 0,i :: l,_,h=>by have:=h i uF;omega
 | n+1,l,hn,h=>by
  by_cases hm:(n:Int)∈l
  .have h1:=zCi n (l.erase (n:Int)) (hn.erase _) (λi hi=>by
    rw[hn.mem_erase_iff] at hi;have:=h i hi.2;have:=hi.1;omega)
   rw[List.length_erase_of_mem hm] at h1;omega
  .have:=zCi n l hn (λi hi=>by
    have h1:=h i hi;have h2:i≠(n:Int):=λe=>hm (e ▸ hi)
    omega)
   omega
def zBA(G:GA)(st:WkS):Prop:=st.pages.Nodup/\∀i∈st.pages,0<=i/\i<(G.blocks:Int)
theorem zBA.few(h:zBA G st):st.pages.length<=G.blocks:=zCi _ _ h.1 h.2
theorem zOl(h:zAb G gen id=.inl p):0<=id/\id<(G.blocks:Int):=by
 unfold zAb GA.get GA.check at h;by_cases hc:id<0\/(G.blocks:Int)<=id
 .rw[if_pos hc] at h;cases h
 .omega
theorem zJw(h:zFC st id=.inl st1):id ∉ st.pages/\st1 = { st with pages:=st.pages++[id] }:=by
 unfold zFC at h;split at h
 .cases h
 .rename_i hm;injection h with h;exact⟨hm,h.symm⟩
theorem zBA.see(h:zBA G st)(h1:zFC st id=.inl st1)(h2:zAb G gen id=.inl p):zBA G st1:=by
 obtain⟨hm,rfl⟩:=zJw h1;have hy:=zOl h2;refine⟨?_,λi hi=>?_⟩
 .show (st.pages++[id]).Nodup;rw[wD];exact⟨h.1,by simp,λa ha b hb=>by simp at hb;subst hb;exact λe=>hm (e ▸ ha)⟩
 .rcases uG.1 hi with h3|h3
  .exact h.2 i h3
  .simp at h3;subst h3;exact hy
theorem zK4:∀(ids:List Int) (st st1:WkS),zBA G st->zC3 G gen ids st=.inl st1->zBA G st1
 | [],st,st1,h,h1=>by rw[zC3] at h1;injection h1 with h1;exact h1 ▸ h
 | id :: r,st,st1,h,h1=>by
  rw[zC3] at h1;split at h1
  .cases h1
  .rename_i s1 hs;split at h1
   .cases h1
   .rename_i p hy;exact zK4 r s1 st1 (h.see hs hy) h1
theorem zIv(G:GA):∀(f:Nat) (id n:Int), -9223372036854775808<=id/\id<=9223372036854775807->∀x∈(yY G f id n).1, -9223372036854775808<=x.1/\x.1<=9223372036854775807
 | 0,_,_,_,x,hx=>by simp[yY] at hx
 | f+1,id,n,h,x,hx=>by
  rw[yY] at hx;split at hx
  .simp at hx
  .split at hx
   .simp at hx
   .rename_i y hy;split at hx
    .simp at hx
    .rcases uN.1 hx with rfl|hx
     .exact h
     .have:=zEA y.body 0 4 (by omega);exact zIv G f _ _ (by omega) x hx
end
end Go.Proofs.YtchklfmggpconaaGreatDoor
